import PyProof.Rows.All
import Wide.All
import OpenK.AllK
import Wide.FinOn
import HandS.ForMost
import HandS.Text
import HandS.Wide
import HandS.TupAny
import HandS.TupMul
import HandS.IsInst
import HandS.Deep
import HandS.Flow
import HandS.Style
import HandS.WordsDict
import KE.LtSeq
import HandS.SetFor
import PyProof.StrOps2
import HandS.ExcField
import HandS.TryMany
import HandS.CallSlots
import HandS.WordsExc
import HandS.Property
import HandS.ExcInit
import HandS.Defaults
import HandS.Comp
import HandS.Iter
import HandS.NoneIn
import HandS.Small
import KE.GoesEnum
import HandS.RevTup
import HandS.DictComp
import HandS.Rev
import PyProof.StrOps
import HandS.TryOnly
import HandS.ExcIs
import KE.KExcIs
import HandS.RaiseMore
import KE.KDictItemsList
import HandS.ExcValue
import KE.BitLaws
import HandS.ForExc
import PySem.Challenge.RW_mobileair_k26_signs_and_septets
set_option Elab.async false
set_option linter.all false
set_option maxRecDepth 100000
set_option maxHeartbeats 8000000
/-! MoT: the words of the programs, by number (printed by wip/tools/mksym.py). -/
namespace Mo
open PySem
def symStr : List String := [
  "a", "b", "c", "d", "r", "s", "on", "up",
  "abc", "act", "add", "age", "air", "ask", "bad", "cut",
  "end", "far", "get", "now", "pop", "put", "say", "way",
  "area", "best", "bits", "book", "busy", "call", "camp", "cell",
  "come", "dial", "done", "down", "drop", "ends", "fail", "find",
  "free", "give", "hang", "harm", "held", "hold", "home", "hops",
  "idle", "info", "join", "kind", "last", "left", "line", "link",
  "lose", "lost", "made", "many", "mark", "move", "near", "need",
  "none", "owed", "pack", "page", "part", "pool", "read", "rest",
  "room", "rows", "said", "seen", "send", "sent", "side", "slow",
  "step", "sync", "take", "tell", "text", "tick", "told", "what",
  "word", "_wall", "areas", "begin", "boxes", "calls", "carry", "cause",
  "cells", "clear", "count", "ended", "facts", "first", "flips", "frame",
  "given", "grant", "group", "half ", "heard", "hears", "index", "is_on",
  "keeps", "leave", "level", "lines", "links", "long ", "mixed", "never",
  "other", "owner", "paged", "pages", "phone", "power", "range", "ready",
  "reset", "rests", "setup", "sides", "since", "sizes", "stage", "start",
  "state", "steps", "store", "taken", "text ", "texts", "ticks", "times",
  "tries", "turns", "units", "waits", "wants", "world", "wrong", "accept",
  "active", "always", "answer", "append", "better", "blocks", "called", "caller",
  "colour", "common", "digits", "extend", "failed", "first ", "is_leg", "let go",
  "let_go", "linked", "losses", "marked", "nobody", "number", "outbox", "owners",
  "parity", "person", "phones", "pieces", "places", "reason", "refuse", "remove",
  "rising", "second", "shares", "speech", "status", "stored", "submit", "switch",
  "unlike", "unpack", "unpage", "whole ", "advance", "answers", "call_of", "channel",
  "collect", "command", "connect", "content", "deliver", "dialled", "flipped", "forward",
  "held_by", "is_full", "leaving", "link_of", "looking", "may_ask", "nearest", "numbers",
  "offered", "pair_of", "perform", "purpose", "reduced", "refused", "release", "ringing",
  "second ", "send_up", "septets", "service", "signals", "silence", "step_up", "text_of",
  "abcdefgh", "add_link", "alerting", "answered", "block_of", "channels", "clearing", "convolve",
  "counters", "delivery", "digit_of", "distance", "end_link", "exchange", "frame_of", "group_of",
  "handover", "is_right", "messages", "need_way", "pairs_of", "place_of", "received", "released",
  "rule_for", "set_area", "starting", "weighted", "add_phone", "answer_of", "broadcast", "called_in",
  "code_sync", "connected", "find_goal", "frequency", "is_digits", "need_plan", "next_camp", "next_sent",
  "number_of", "octet_row", "read_area", "read_part", "read_sync", "remainder", "send_down", "set_level",
  "step_down", "call_cause", "call_state", "code_block", "command_of", "control_of", "disconnect", "known_area",
  "next_taken", "octet_bits", "pack_frame", "page_frame", "proceeding", "read_block", "read_other", "read_pairs",
  "read_place", "read_plain", "step_pages", "step_rings", "take_piece", "take_setup", "unanswered", "words_said",
  "write_area", "write_part", "write_sign", "act_on_call", "act_on_text", "area accept", "area update", "area_octets",
  "better_cell", "bits_number", "bits_octets", "check_digit", "code_access", "code_speech", "messages_of", "need_digits",
  "need_number", "need_person", "not_reached", "number_bits", "page answer", "read_access", "read_number", "read_person",
  "read_single", "read_speech", "septet_bits", "set_forward", "step_access", "step_losses", "take_number", "unreachable",
  "with_digits", "with_number", "words_heard", "common_block", "connect done", "control_slot", "double_signs", "read_message",
  "read_several", "send_command", "single_signs", "step_camping", "traffic_slot", "unpack_frame", "act_on_answer", "channel_state",
  "first_message", "handover done", "is_page_frame", "number_octets", "silence_after", "step_handover", "write_message", "begin_handover",
  "ends_in_escape", "first_of_block", "frames_between", "page_for_texts", "service accept", "finish_handover", "has_right_check", "read_subscriber",
  "take_disconnect", "frame_of_reduced", "read_short_number", "subscriber_octets", "abcdefghijklmnopqrstuvwxyz"]
def symTbl : List Str := symStr.map Str.ofString
def codeS (s : Str) : Nat := s.cps.toList.foldl (fun a c => a * 1024 + c + 1) 0
def incrN : List Nat → Bool
  | x :: y :: r => decide (x < y) && incrN (y :: r)
  | _ => true
theorem symTbl_incr : incrN (symTbl.map codeS) = true := by decide +kernel
theorem symTbl_head : (symTbl.all fun s => match s.cps.toList with | c :: _ => c != 0 | [] => false) = true := by decide +kernel
theorem symTbl_ok : (symTbl.all fun s => s.cps.all (· < 0x110000)) = true := by decide +kernel
theorem incr_pw : ∀ {l : List Nat}, incrN l = true → l.Pairwise (· < ·)
  | [], _ => .nil
  | [x], _ => List.pairwise_singleton _ _
  | x :: y :: r, h => by
    have h' : (decide (x < y) && incrN (y :: r)) = true := h
    rw [Bool.and_eq_true] at h'
    have ih := incr_pw h'.2
    refine List.pairwise_cons.mpr ⟨fun z hz => ?_, ih⟩
    have h1 := of_decide_eq_true h'.1
    rcases List.mem_cons.mp hz with e | hz
    · subst e; exact h1
    · exact Nat.lt_trans h1 ((List.pairwise_cons.mp ih).1 z hz)
def nm (i : Nat) : Str := match symTbl[i]? with
  | some s => s
  | none => ⟨(List.replicate (i + 1) 0).toArray⟩
theorem nm_inj {i j : Nat} (h : nm i = nm j) : i = j := by
  have hd : ∀ (k : Nat) s, symTbl[k]? = some s → ∃ c r, s.cps.toList = c :: r ∧ c ≠ 0 := fun k s e => by
    have q := List.all_eq_true.mp symTbl_head s (List.mem_of_getElem? e)
    cases z : s.cps.toList with
    | nil => rw [z] at q; cases q
    | cons c r => rw [z] at q; exact ⟨c, r, rfl, by simpa using q⟩
  have bad : ∀ (k l : Nat) s, symTbl[k]? = some s → s = ⟨(List.replicate (l + 1) 0).toArray⟩ → False := fun k l s e q => by
    obtain ⟨c, r, h1, h2⟩ := hd k s e
    rw [q] at h1
    simp only [List.replicate_succ] at h1
    injection h1 with h3 _
    exact h2 h3.symm
  unfold nm at h
  cases e1 : symTbl[i]? with
  | none =>
    cases e2 : symTbl[j]? with
    | none =>
      rw [e1, e2] at h
      injection h with h
      have h' := congrArg Array.size h
      simp at h'
      exact h'
    | some s => rw [e1, e2] at h; exact (bad j i s e2 h.symm).elim
  | some s =>
    cases e2 : symTbl[j]? with
    | none => rw [e1, e2] at h; exact (bad i j s e1 h).elim
    | some t =>
      rw [e1, e2] at h
      have h : s = t := h
      subst h
      have pw := incr_pw symTbl_incr
      have key : ∀ a b : Nat, a < b → symTbl[a]? = some s → symTbl[b]? = some s → False := fun a b hab h1 h2 => by
        obtain ⟨l1, g1⟩ := List.getElem?_eq_some_iff.mp h1
        obtain ⟨l2, g2⟩ := List.getElem?_eq_some_iff.mp h2
        have := List.pairwise_iff_getElem.mp pw a b (by simpa using l1) (by simpa using l2) hab
        rw [List.getElem_map, List.getElem_map, g1, g2] at this
        exact Nat.lt_irrefl _ this
      rcases Nat.lt_trichotomy i j with q | q | q
      · exact (key i j q e1 e2).elim
      · exact q
      · exact (key j i q e2 e1).elim
theorem nm_ok (i : Nat) : PyData.strOk (nm i) = true := by
  unfold nm PyData.strOk
  split
  · rename_i s e
    exact List.all_eq_true.mp symTbl_ok s (List.mem_of_getElem? e)
  · rw [Array.all_eq_true]
    intro k hk
    simp
@[simp] theorem nm_beq (i j : Nat) : (nm i == nm j) = (i == j) := by
  by_cases h : i = j
  · subst h; simp
  · have : nm i ≠ nm j := fun e => h (nm_inj e)
    rw [beq_eq_false_iff_ne.mpr this, beq_eq_false_iff_ne.mpr h]
theorem nm_eq {i j : Nat} : nm i = nm j ↔ i = j := ⟨nm_inj, fun h => h ▸ rfl⟩
end Mo
/-! Mo0: tree values, a store of objects, a small language and its evaluator. -/
namespace Mo
open PySem L2

inductive D where
  | non | bl (b : Bool) | int (i : Int) | str (x : Str)
  | tup (xs : List D) | lst (xs : List D) | oid (n : Nat) | exr | scr (xs : List D) | ktup (xs : List D) | sy (n : Nat)
  deriving Inhabited

inductive Ob where
  | dead | lst (xs : List D) | ins (c : Nat) (fs : List (Nat × D)) | dk (kvs : List (Key × D)) | dt (kvs : List (List Key × D))
abbrev Store := List Ob
abbrev Sl := List (Option D)
structure Exn where
  cls : Nat
  fs : List (Nat × D)

inductive Out (α : Type) where
  | ok (a : α) (M : Store)
  | exc (x : Exn) (M : Store)
abbrev Rs (α : Type) := Option (Out α)
@[reducible] def rok {α : Type} (a : α) (M : Store) : Rs α := some (.ok a M)
def bnd {α β : Type} (r : Rs α) (k : α → Store → Rs β) : Rs β := match r with
  | some (.ok a M) => k a M
  | some (.exc x M) => some (.exc x M)
  | none => none
@[simp] theorem bnd_ok {α β : Type} (a : α) (M : Store) (k : α → Store → Rs β) : bnd (some (.ok a M)) k = k a M := rfl
@[simp] theorem bnd_exc {α β : Type} (x : Exn) (M : Store) (k : α → Store → Rs β) : bnd (some (.exc x M)) k = some (.exc x M) := rfl
@[simp] theorem bnd_none {α β : Type} (k : α → Store → Rs β) : bnd none k = none := rfl
/-- no exception is let out -/
def nox {α : Type} (r : Rs α) : Rs α := match r with
  | some (.ok a M) => some (.ok a M)
  | _ => none
@[simp] theorem nox_ok {α : Type} (a : α) (M : Store) : nox (some (.ok a M)) = some (.ok a M) := rfl

abbrev line : Nat := 16777216

/-! ### views -/
def viewL (M : Store) : D → Option (List D)
  | .lst xs => some xs
  | .scr xs => some xs
  | .oid n => match M[n]? with
    | some (.lst xs) => some xs
    | _ => none
  | _ => none
/-- a list, but not the script itself -/
def viewH (M : Store) : D → Option (List D)
  | .scr _ => none
  | d => viewL M d
def viewS (M : Store) : D → Option (List D)
  | .tup xs => some xs
  | .ktup xs => some xs
  | d => viewL M d
/-- what a list may be extended by -/
def viewE (M : Store) : D → Option (List D)
  | .scr _ => none
  | d => viewS M d
@[simp] theorem viewE_lst (M : Store) (xs : List D) : viewE M (.lst xs) = some xs := rfl
@[simp] theorem viewE_tup (M : Store) (xs : List D) : viewE M (.tup xs) = some xs := rfl
@[simp] theorem viewE_ktup (M : Store) (xs : List D) : viewE M (.ktup xs) = some xs := rfl
@[simp] theorem viewE_oid (M : Store) (n : Nat) : viewE M (.oid n) = viewL M (.oid n) := rfl
@[simp] theorem viewL_lst (M : Store) (xs : List D) : viewL M (.lst xs) = some xs := rfl
@[simp] theorem viewL_scr (M : Store) (xs : List D) : viewL M (.scr xs) = some xs := rfl
@[simp] theorem viewH_lst (M : Store) (xs : List D) : viewH M (.lst xs) = some xs := rfl
@[simp] theorem viewH_oid (M : Store) (n : Nat) : viewH M (.oid n) = viewL M (.oid n) := rfl
@[simp] theorem viewS_ktup (M : Store) (xs : List D) : viewS M (.ktup xs) = some xs := rfl
@[simp] theorem viewS_scr (M : Store) (xs : List D) : viewS M (.scr xs) = some xs := rfl
@[simp] theorem viewL_int (M : Store) (i : Int) : viewL M (.int i) = none := rfl
@[simp] theorem viewL_str (M : Store) (i : Str) : viewL M (.str i) = none := rfl
@[simp] theorem viewL_tup (M : Store) (i : List D) : viewL M (.tup i) = none := rfl
@[simp] theorem viewL_bl (M : Store) (i : Bool) : viewL M (.bl i) = none := rfl
@[simp] theorem viewL_non (M : Store) : viewL M .non = none := rfl
@[simp] theorem viewS_lst (M : Store) (xs : List D) : viewS M (.lst xs) = some xs := rfl
@[simp] theorem viewS_tup (M : Store) (xs : List D) : viewS M (.tup xs) = some xs := rfl
@[simp] theorem viewS_oid (M : Store) (n : Nat) : viewS M (.oid n) = viewL M (.oid n) := rfl
@[simp] theorem viewS_int (M : Store) (i : Int) : viewS M (.int i) = none := rfl
@[simp] theorem viewS_str (M : Store) (i : Str) : viewS M (.str i) = none := rfl
theorem viewL_iff {M : Store} {n : Nat} {xs : List D} : viewL M (.oid n) = some xs ↔ M[n]? = some (.lst xs) := by
  show (match M[n]? with
    | some (.lst xs) => some xs
    | _ => none) = some xs ↔ _
  cases e : M[n]? with
  | none => simp
  | some o => cases o <;> simp
theorem viewL_oid {M : Store} {n : Nat} {xs : List D} (h : M[n]? = some (.lst xs)) : viewL M (.oid n) = some xs := by simp [viewL, h]
@[simp] theorem viewL_new (M N : Store) (xs : List D) : viewL (M ++ .lst xs :: N) (.oid M.length) = some xs := by simp [viewL]

def mapO {α β : Type} (f : α → Option β) : List α → Option (List β)
  | [] => some []
  | x :: xs => match f x, mapO f xs with
    | some y, some ys => some (y :: ys)
    | _, _ => none
/-- the data of a value, lists of the store looked through -/
def toPd (M : Store) : Nat → D → Option PyData
  | 0, _ => none
  | _ + 1, .non => some .none
  | _ + 1, .bl b => some (.bool b)
  | _ + 1, .int i => some (.int i)
  | _ + 1, .str x => if PyData.strOk x = true then some (.str x) else none
  | n + 1, .tup xs => (mapO (toPd M n) xs).map .tuple
  | _ + 1, .sy k => some (.str (nm k))
  | n + 1, .ktup xs => (mapO (toPd M n) xs).map .tuple
  | n + 1, .lst xs => (mapO (toPd M n) xs).map .list
  | n + 1, .scr xs => (mapO (toPd M n) xs).map .list
  | n + 1, .oid k => match M[k]? with
    | some (.lst xs) => (mapO (toPd M n) xs).map .list
    | _ => none
  | _ + 1, .exr => none
abbrev pdDepth : Nat := 8

def truth (M : Store) : D → Option Bool
  | .non => some false
  | .bl b => some b
  | .int i => some (i != 0)
  | .str x => if x.length ≤ line then some (x.length != 0) else none
  | .tup xs => some (!xs.isEmpty)
  | .ktup xs => some (!xs.isEmpty)
  | d => (viewL M d).map fun xs => !xs.isEmpty
@[simp] theorem truth_bl (M : Store) (b : Bool) : truth M (.bl b) = some b := rfl
@[simp] theorem truth_non (M : Store) : truth M .non = some false := rfl
@[simp] theorem truth_int (M : Store) (i : Int) : truth M (.int i) = some (i != 0) := rfl

/-! ### dicts -/
def lookK {κ : Type} [DecidableEq κ] (kvs : List (κ × D)) (k : κ) : Option D := (kvs.find? fun kv => decide (kv.1 = k)).map (·.2)
def storeK {κ : Type} [DecidableEq κ] (kvs : List (κ × D)) (k : κ) (y : D) : List (κ × D) :=
  if (kvs.any fun kv => decide (kv.1 = k)) = true then kvs.map fun kv => if kv.1 = k then (kv.1, y) else kv else kvs ++ [(k, y)]
/-- a scalar key -/
def keyD : D → Option Key
  | .int i => some (.inl i)
  | .str x => some (.inr x)
  | .sy n => some (.inr (nm n))
  | _ => none
def keysD : List D → Option (List Key)
  | [] => some []
  | d :: ds => match keyD d, keysD ds with
    | some k, some ks => some (k :: ks)
    | _, _ => none
/-- keys and values, by turns -/
def prsK : List D → Option (List (Key × D))
  | [] => some []
  | [_] => none
  | k :: v :: r => match keyD k, prsK r with
    | some k', some r' => some ((k', v) :: r')
    | _, _ => none
def dispK (kvs : List (Key × D)) : List (Key × D) := kvs.foldl (fun a p => storeK a p.1 p.2) []
def getD (M : Store) (n : Nat) (d : D) : Option (Option D) := match M[n]? with
  | some (.dk kvs) => (keyD d).map fun k => lookK kvs k
  | some (.dt kvs) => match d with
    | .tup ds => (keysD ds).map fun k => lookK kvs k
    | _ => none
  | _ => none
def setD (M : Store) (n : Nat) (d y : D) : Option Store := match M[n]? with
  | some (.dk kvs) => match keyD d with
    | some k => if kvs.length < line then some (M.set n (.dk (storeK kvs k y))) else none
    | none => none
  | some (.dt kvs) => match d with
    | .tup ds => match keysD ds with
      | some k => if kvs.length < line then some (M.set n (.dt (storeK kvs k y))) else none
      | none => none
    | _ => none
  | _ => none

def isDict (M : Store) : D → Bool
  | .oid n => match M[n]? with
    | some (.dk _) => true
    | some (.dt _) => true
    | _ => false
  | _ => false

/-! ### by values -/
inductive Ty where
  | bool | int | str | list | tuple
  deriving DecidableEq
inductive Pr where
  | add | sub | mul | fdiv | mod | pow | shr | band | bxor | neg
  | eq | ne | lt | le | gt | ge | is | isNot | in_ | notIn
  | ix | dix | din | dnotIn | eqz | sl00 | sl01 | sl10
  | len | int_ | list_ | tuple_ | min2 | max2 | ord | str_ | isinst (t : Ty)
  | append | extend | get1 | get2 | index | count | pop0 | lrev | sort2
  deriving DecidableEq

inductive PO where
  | v (d : D) (M : Store)
  | nl (xs : List D)

def cut {α : Type} (xs : List α) (lo hi : Option Int) : List α := (xs.drop (HT.sIx xs.length 0 lo)).take (HT.sIx xs.length xs.length hi - HT.sIx xs.length 0 lo)

def slice (M : Store) (d : D) (lo hi : Option Int) : Option PO := match d with
  | .tup xs => some (.v (.tup (cut xs lo hi)) M)
  | .ktup xs => if HT.sIx xs.length 0 lo = 0 ∧ HT.sIx xs.length xs.length hi = xs.length then none else some (.v (.tup (cut xs lo hi)) M)
  | .str z => if z.length ≤ line then some (.v (.str (L2.cutS z lo hi)) M) else none
  | d => (viewL M d).map fun xs => .nl (cut xs lo hi)

def isTy : Ty → Store → D → Option Bool
  | .bool, _, .bl _ => some true
  | .int, _, .bl _ => some true
  | .int, _, .int _ => some true
  | .str, _, .str _ => some true
  | .str, _, .sy _ => some true
  | .tuple, _, .tup _ => some true
  | .tuple, _, .ktup _ => some true
  | .list, _, .lst _ => some true
  | .list, _, .scr _ => some true
  | t, M, .oid n => match M[n]? with
    | some (.lst _) => some (t == .list)
    | some (.dk _) => some false
    | some (.dt _) => some false
    | _ => none
  | _, _, .exr => none
  | _, _, _ => some false

/-- a flat item (for in over a tuple) -/
def flatD : D → Bool
  | .non => true | .bl _ => true | .int _ => true | .str _ => true | .sy _ => true | _ => false
def toV : D → V
  | .non => .non | .bl b => .bl b | .int i => .int i | .str x => .str x | .sy n => .str (nm n) | _ => .non
def inList : Option PyData → Option PyData → Option Bool
  | some (.list ds), some d => some (ds.any fun z => PyData.eqv z d)
  | _, _ => none
def inD (M : Store) (x : D) : D → Option Bool
  | .tup ys => if (flatD x && ys.all flatD) = true then some (L2.inV (toV x) (ys.map toV)) else none
  | .ktup ys => if (flatD x && ys.all flatD) = true then some (L2.inV (toV x) (ys.map toV)) else none
  | .str z => match x with
    | .str c => match c.cps.toList with
      | [k] => some (decide (k ∈ z.cps.toList))
      | _ => none
    | _ => none
  | .oid n => inList (toPd M pdDepth (.oid n)) (toPd M pdDepth x)
  | .lst ys => inList (toPd M pdDepth (.lst ys)) (toPd M pdDepth x)
  | _ => none

/-- a side condition, decided out of the kernel's sight -/
noncomputable def okP (p : Prop) : Bool := @decide p (Classical.propDecidable p)
theorem okP_of {p : Prop} (h : p) : okP p = true := by
  unfold okP
  exact @decide_eq_true p (Classical.propDecidable p) h
theorem okP_ok {p : Prop} (h : okP p = true) : p := by
  unfold okP at h
  exact @of_decide_eq_true p (Classical.propDecidable p) h
theorem okP_iff {p : Prop} : okP p = true ↔ p := ⟨okP_ok, okP_of⟩
noncomputable def okDiv (j : Int) : Bool := okP (0 < j ∧ j < 2 ^ 250)
noncomputable def okMul (i j : Int) : Bool := okP ((i.natAbs < 2 ^ 250 ∧ j.natAbs < 2 ^ 250) ∨ (j.natAbs < 2 ^ 63 ∨ i.natAbs < 2 ^ 63))
noncomputable def okPow (i j : Int) : Bool := okP (0 ≤ j ∧ j ≤ 1000000 ∧ i.natAbs < 2 ^ 64)
noncomputable def okRep (n : Nat) (k : Int) : Bool := okP (-(2 ^ 63) ≤ k ∧ k < 2 ^ 63 ∧ n * k.toNat ≤ line)

def pAdd : List D → Store → Option PO
  | [.int i, .int j], M => some (.v (.int (i + j)) M)
  | [.str x, .str y], M => if x.length + y.length ≤ line then some (.v (.str (x ++ y)) M) else none
  | [.tup xs, .tup ys], M => if xs.length + ys.length ≤ line then some (.v (.tup (xs ++ ys)) M) else none
  | [.tup xs, .ktup ys], M => if xs.length + ys.length ≤ line ∧ xs ≠ [] ∧ ys ≠ [] then some (.v (.tup (xs ++ ys)) M) else none
  | [.ktup xs, .tup ys], M => if xs.length + ys.length ≤ line ∧ xs ≠ [] ∧ ys ≠ [] then some (.v (.tup (xs ++ ys)) M) else none
  | [a, b], M => match viewH M a, viewH M b with
    | some xs, some ys => if xs.length + ys.length ≤ line then some (.nl (xs ++ ys)) else none
    | _, _ => none
  | _, _ => none
def pSub : List D → Store → Option PO
  | [.int i, .int j], M => some (.v (.int (i - j)) M)
  | _, _ => none
noncomputable def pMul : List D → Store → Option PO
  | [.int i, .int j], M => if okMul i j = true then some (.v (.int (i * j)) M) else none
  | [.tup xs, .int k], M => if xs ≠ [] ∧ xs.length ≤ 1000 ∧ -1000000 ≤ k ∧ k ≤ 1000 then some (.v (.tup (List.replicate k.toNat xs).flatten) M) else none
  | [.str z, .int k], M => if 0 ≤ k ∧ k ≤ 1000 ∧ z.length ≤ 1000 then some (.v (.str ⟨(List.replicate k.toNat z.cps.toList).flatten.toArray⟩) M) else none
  | [a, .int k], M => match viewH M a with
    | some xs => if okRep xs.length k = true then some (.nl (List.replicate k.toNat xs).flatten) else none
    | none => none
  | _, _ => none
noncomputable def pFdiv : List D → Store → Option PO
  | [.int i, .int j], M => if okDiv j = true then some (.v (.int (i / j)) M) else none
  | _, _ => none
def pMod : List D → Store → Option PO
  | [.int i, .int j], M => if 0 < j then some (.v (.int (i % j)) M) else none
  | _, _ => none
noncomputable def pPow : List D → Store → Option PO
  | [.int i, .int j], M => if okPow i j = true then some (.v (.int (i ^ j.toNat)) M) else none
  | _, _ => none
def pShr : List D → Store → Option PO
  | [.int i, .int j], M => if 0 ≤ j then some (.v (.int (i / 2 ^ j.toNat)) M) else none
  | _, _ => none
def pBand : List D → Store → Option PO
  | [.int i, .int j], M => some (.v (.int (Builtin.bitAnd i j)) M)
  | _, _ => none
def pBxor : List D → Store → Option PO
  | [.int i, .int j], M => some (.v (.int (Builtin.bitXor i j)) M)
  | _, _ => none
def pNeg : List D → Store → Option PO
  | [.int i], M => some (.v (.int (-i)) M)
  | _, _ => none
def eqD (M : Store) (a b : D) : Option Bool := match toPd M pdDepth a, toPd M pdDepth b with
  | some p, some q => some (PyData.eqv p q)
  | _, _ => none
def pEq : List D → Store → Option PO
  | [a, b], M => (eqD M a b).map fun k => .v (.bl k) M
  | _, _ => none
def pNe : List D → Store → Option PO
  | [a, b], M => (eqD M a b).map fun k => .v (.bl (!k)) M
  | _, _ => none
def asI : D → Option Int
  | .int i => some i
  | _ => none
def pLt : List D → Store → Option PO
  | [.int i, .int j], M => some (.v (.bl (decide (i < j))) M)
  | [.tup xs, .tup ys], M => match mapO asI xs, mapO asI ys with
    | some ns, some ms => some (.v (.bl (HT.lexLt ns ms)) M)
    | _, _ => none
  | [a, b], M => match viewL M a, viewL M b with
    | some xs, some ys => match mapO asI xs, mapO asI ys with
      | some ns, some ms => some (.v (.bl (HT.lexLt ns ms)) M)
      | _, _ => none
    | _, _ => none
  | _, _ => none
def pLe : List D → Store → Option PO
  | [.int i, .int j], M => some (.v (.bl (decide (i ≤ j))) M)
  | _, _ => none
def pGt : List D → Store → Option PO
  | [.int i, .int j], M => some (.v (.bl (decide (j < i))) M)
  | _, _ => none
def pGe : List D → Store → Option PO
  | [.int i, .int j], M => some (.v (.bl (decide (j ≤ i))) M)
  | _, _ => none
def isNon : D → Bool
  | .non => true
  | _ => false
def pIs : List D → Store → Option PO
  | [a, .non], M => some (.v (.bl (isNon a)) M)
  | [.bl a, .bl b], M => some (.v (.bl (decide (a = b))) M)
  | _, _ => none
def pIsNot : List D → Store → Option PO
  | [a, .non], M => some (.v (.bl (!isNon a)) M)
  | [.bl a, .bl b], M => some (.v (.bl (!decide (a = b))) M)
  | _, _ => none
def pIn : List D → Store → Option PO
  | [x, c], M => (inD M x c).map fun b => .v (.bl b) M
  | _, _ => none
def pNotIn : List D → Store → Option PO
  | [x, c], M => (inD M x c).map fun b => .v (.bl (!b)) M
  | _, _ => none
def ixL (xs : List D) (i : Int) (M : Store) : Option PO := match atI xs i with
  | some d => some (.v d M)
  | none => none
def pIx : List D → Store → Option PO
  | [.str z, .int i], M => if z.length ≤ line then match atI z.cps.toList i with
      | some c => some (.v (.str ⟨#[c]⟩) M)
      | none => none
    else none
  | [a, .int i], M => match viewS M a with
    | some xs => ixL xs i M
    | none => none
  | _, _ => none
def pDix : List D → Store → Option PO
  | [.oid n, k], M => match getD M n k with
    | some (some d) => some (.v d M)
    | _ => none
  | _, _ => none
def pDin : List D → Store → Option PO
  | [k, .oid n], M => match getD M n k with
    | some r => some (.v (.bl r.isSome) M)
    | none => none
  | _, _ => none
def pDnotIn : List D → Store → Option PO
  | [k, .oid n], M => match getD M n k with
    | some r => some (.v (.bl (!r.isSome)) M)
    | none => none
  | _, _ => none
/-- == of two lists, that may hold anything if their lengths differ -/
def pEqz : List D → Store → Option PO
  | [a, b], M => match viewL M a, viewL M b with
    | some xs, some ys => if xs.length = ys.length then (eqD M a b).map fun k => .v (.bl k) M else some (.v (.bl false) M)
    | _, _ => none
  | _, _ => none
def pSl00 : List D → Store → Option PO
  | [a], M => slice M a none none
  | _, _ => none
def pSl01 : List D → Store → Option PO
  | [a, .int j], M => slice M a none (some j)
  | _, _ => none
def pSl10 : List D → Store → Option PO
  | [a, .int i], M => slice M a (some i) none
  | _, _ => none
def lenD (M : Store) : D → Option Nat
  | .str x => if x.length ≤ line then some x.length else none
  | .tup xs => some xs.length
  | .ktup xs => some xs.length
  | .lst xs => some xs.length
  | .scr xs => some xs.length
  | .oid n => match M[n]? with
    | some (.lst xs) => some xs.length
    | some (.dk kvs) => some kvs.length
    | _ => none
  | _ => none
def pLen : List D → Store → Option PO
  | [a], M => (lenD M a).map fun n : Nat => .v (.int (n : Int)) M
  | _, _ => none
def pInt : List D → Store → Option PO
  | [.int i], M => some (.v (.int i) M)
  | [.bl b], M => some (.v (.int (if b then 1 else 0)) M)
  | [.str x], M => if x.length ≤ 640 then match PySem.intText? x with
      | some n => some (.v (.int n) M)
      | none => none
    else none
  | _, _ => none
def pList : List D → Store → Option PO
  | [a], M => (viewS M a).map fun xs => .nl xs
  | _, _ => none
def pTuple : List D → Store → Option PO
  | [.ktup xs], M => some (.v (.ktup xs) M)
  | [a], M => (viewS M a).map fun xs => .v (.tup xs) M
  | _, _ => none
def pMin : List D → Store → Option PO
  | [.int i, .int j], M => some (.v (.int (if j < i then j else i)) M)
  | _, _ => none
def pMax : List D → Store → Option PO
  | [.int i, .int j], M => some (.v (.int (if j > i then j else i)) M)
  | _, _ => none
def pOrd : List D → Store → Option PO
  | [.str x], M => if x.length = 1 then some (.v (.int (x.cps.getD 0 0 : Nat)) M) else none
  | _, _ => none
def pStr : List D → Store → Option PO
  | [.int i], M => if i.natAbs < 2 ^ 1900 then some (.v (.str (toString i)) M) else none
  | _, _ => none
def pIsinst (t : Ty) : List D → Store → Option PO
  | [a], M => (isTy t M a).map fun b => .v (.bl b) M
  | _, _ => none
def pAppend : List D → Store → Option PO
  | [.oid n, y], M => match M[n]? with
    | some (.lst xs) => if xs.length < line then some (.v .non (M.set n (.lst (xs ++ [y])))) else none
    | _ => none
  | _, _ => none
def pExtend : List D → Store → Option PO
  | [.oid n, a], M => match M[n]?, viewE M a with
    | some (.lst xs), some ys => if xs.length + ys.length ≤ line then some (.v .non (M.set n (.lst (xs ++ ys)))) else none
    | _, _ => none
  | _, _ => none
def pGet1 : List D → Store → Option PO
  | [.oid n, k], M => match getD M n k with
    | some r => some (.v (r.getD .non) M)
    | none => none
  | _, _ => none
def pGet2 : List D → Store → Option PO
  | [.oid n, k, z], M => match getD M n k with
    | some r => some (.v (r.getD z) M)
    | none => none
  | _, _ => none
/-- sorted of two signs -/
def pSort2 : List D → Store → Option PO
  | [a], M => match viewL M a with
    | some [.str x, .str y] => (match x.cps.toList, y.cps.toList with
      | [c], [d] => if d < c then some (.nl [.str y, .str x]) else some (.nl [.str x, .str y])
      | _, _ => none)
    | _ => none
  | _, _ => none
def pCount : List D → Store → Option PO
  | [a, .int k], M => match viewL M a with
    | some xs => match mapO asI xs with
      | some ns => some (.v (.int (ns.count k : Nat)) M)
      | none => none
    | none => none
  | _, _ => none
def pIndex : List D → Store → Option PO
  | [a, x], M => match viewL M a with
    | some xs => if (flatD x && xs.all flatD) = true then match xs.findIdx? fun z => L2.eqV (toV z) (toV x) with
      | some j => some (.v (.int (j : Nat)) M)
      | none => none
      else none
    | none => none
  | _, _ => none
def pLrev : List D → Store → Option PO
  | [a], M => (viewL M a).map fun xs => .nl xs.reverse
  | _, _ => none
noncomputable def prim : Pr → List D → Store → Option PO
  | .add => pAdd | .sub => pSub | .mul => pMul | .fdiv => pFdiv | .mod => pMod | .pow => pPow | .shr => pShr | .band => pBand | .bxor => pBxor | .neg => pNeg
  | .eq => pEq | .ne => pNe | .lt => pLt | .le => pLe | .gt => pGt | .ge => pGe | .is => pIs | .isNot => pIsNot | .in_ => pIn | .notIn => pNotIn
  | .ix => pIx | .dix => pDix | .din => pDin | .dnotIn => pDnotIn | .eqz => pEqz | .sl00 => pSl00 | .sl01 => pSl01 | .sl10 => pSl10
  | .len => pLen | .int_ => pInt | .list_ => pList | .tuple_ => pTuple | .min2 => pMin | .max2 => pMax | .ord => pOrd | .str_ => pStr | .isinst t => pIsinst t
  | .append => pAppend | .extend => pExtend | .get1 => pGet1 | .get2 => pGet2
  | .index => pIndex | .count => pCount | .pop0 => fun _ _ => none | .lrev => pLrev | .sort2 => pSort2

/-- the receiver of a built-in method -/
def recv (p : Pr) (M : Store) (d : D) : Bool := match p with
  | .append => (viewH M d).isSome
  | .extend => (viewH M d).isSome
  | .index => (viewL M d).isSome
  | .count => (viewL M d).isSome
  | .pop0 => (viewH M d).isSome
  | .get1 => isDict M d
  | .get2 => isDict M d
  | _ => false

def mk (m : Bool) (xs : List D) (M : Store) : Out D := if m then .ok (.oid M.length) (M ++ [.lst xs]) else .ok (.lst xs) M
@[simp] theorem mk_true (xs : List D) (M : Store) : mk true xs M = .ok (.oid M.length) (M ++ [.lst xs]) := rfl
@[simp] theorem mk_false (xs : List D) (M : Store) : mk false xs M = .ok (.lst xs) M := rfl

/-- a primitive's end -/
def po (m : Bool) (M : Store) : Option PO → Rs D
  | some (.v d M2) => rok d M2
  | some (.nl xs) => some (mk m xs M)
  | none => none
@[simp] theorem po_v (m : Bool) (M M2 : Store) (d : D) : po m M (some (.v d M2)) = some (.ok d M2) := rfl
@[simp] theorem po_nl (m : Bool) (M : Store) (xs : List D) : po m M (some (.nl xs)) = some (mk m xs M) := rfl
@[simp] theorem po_nn (m : Bool) (M : Store) : po m M none = none := rfl

/-! ### the language -/
/-- what a for walks -/
inductive Ik where
  | ex | rng1 | rng2 | rng3 | enum | rev | enumR | keys (x : Str) (ks : List Str)
  deriving DecidableEq
def catches (h c : Nat) : Bool := h == c || h == 0
/-- what is asked of a table of the module -/
inductive Tq where
  | has | hasnt | item | get1 | get2
  deriving DecidableEq
mutual
inductive E where
  | var (i : Nat) | lit (d : D) | glb (x : Str) (d : D)
  | op (p : Pr) (m : Bool) (es : Es)
  | tup (es : Es) | lst (m : Bool) (es : Es)
  | andE (a b : E) | orE (a b : E) | notE (a : E) | ite (c a b : E)
  | meth (p : Pr) (m : Bool) (o : E) (es : Es)
  | call (f : Nat) (es : Es) | mcall (c f m : Nat) (o : E) (es : Es) | prop (c f : Nat) (o : E) | make (c f : Nat) (es : Es)
  | sl3 (m : Bool) (a b c : E)
  | fld (c : Nat) (e : E) (f : Nat) | xfld (i f : Nat) | xis (i h : Nat)
  | chain (p q : Pr) (a b c : E)
  | frz (e : E) | newD (t : Bool) | disp (es : Es)
  | tab (q : Tq) (x : Str) (kvs : List (Str × D)) (e d : E)
  | comp (m : Bool) (own : List (Str × Nat)) (elt : E) (t : Tg) (k : Ik) (es : Es) (ifs : Es)
  | comp2 (m : Bool) (own : List (Str × Nat)) (elt : E) (t : Tg) (k : Ik) (es : Es) (t2 : Tg) (k2 : Ik) (es2 : Es)
  | dcomp (own : List (Str × Nat)) (kx vx : E) (t : Tg) (k : Ik) (es : Es) (ifs : Es)
inductive Es where
  | nil | cons (e : E) (es : Es)
inductive Tg where
  | nm (i : Nat) | tup (ts : Tgs) | sub (o i : E) | dsub (o i : E) | att (c : Nat) (o : E) (f : Nat) | slc (o a b : E)
inductive Tgs where
  | nil | cons (t : Tg) (ts : Tgs)
end

def Tgs.len : Tgs → Nat
  | .nil => 0
  | .cons _ r => r.len + 1
mutual
def Tg.slots : Tg → List Nat
  | .nm i => [i]
  | .tup ts => ts.slots
  | _ => []
def Tgs.slots : Tgs → List Nat
  | .nil => []
  | .cons t r => t.slots ++ r.slots
end
abbrev Ctr := List D → Store → Rs D
structure Ev where
  fn : Nat → Ctr
  exn : Nat := 7
  cx : Option (Exn × Nat) := none

/-- the items that are walked; the list of the store that must stay as it is -/
structure Items where
  xs : List D
  gd : Option (Nat × List D) := none
def gdOk (g : Option (Nat × List D)) (M : Store) : Prop := match g with
  | none => True
  | some (n, xs) => M[n]? = some (.lst xs)
noncomputable instance gdDec (M : Store) : (g : Option (Nat × List D)) → Decidable (gdOk g M)
  | none => isTrue True.intro
  | some _ => Classical.propDecidable _
@[simp] theorem gdOk_none (M : Store) : gdOk none M = True := rfl
theorem gdOk_some {M : Store} {n : Nat} {xs : List D} : gdOk (some (n, xs)) M ↔ M[n]? = some (.lst xs) := Iff.rfl

def rngL (lo : Int) (n : Nat) (c : Int) : List D := (List.range n).map fun k : Nat => .int (lo + k * c)
noncomputable def small62 (i : Int) : Bool := okP (-(2 ^ 62) ≤ i ∧ i < 2 ^ 62)
noncomputable def okR3 (i j c : Int) : Bool := okP (c ≠ 0 ∧ c.natAbs < 1073741824 ∧ Builtin.Range.small i j c = true)
def gdOf : D → List D → Option (Nat × List D)
  | .oid n, xs => some (n, xs)
  | _, _ => none
noncomputable def items : Ik → List D → Store → Option Items
  | .ex, [.str x], _ => if x.length ≤ line then some ⟨x.cps.toList.map fun c => .str ⟨#[c]⟩, none⟩ else none
  | .ex, [d], M => (viewS M d).map fun xs => ⟨xs, gdOf d xs⟩
  | .rng1, [.int j], _ => if small62 j = true then some ⟨rngL 0 j.toNat 1, none⟩ else none
  | .rng2, [.int i, .int j], _ => if (small62 i && small62 j) = true then some ⟨rngL i (j - i).toNat 1, none⟩ else none
  | .rng3, [.int i, .int j, .int c], _ => if okR3 i j c = true then some ⟨rngL i (Builtin.Range.rangeSize i j c).toNat c, none⟩ else none
  | .enum, [d], M => (viewS M d).map fun xs => ⟨xs.zipIdx.map fun p => .tup [.int (p.2 : Int), p.1], gdOf d xs⟩
  | .rev, [d], M => (viewL M d).map fun xs => ⟨xs.reverse, gdOf d xs⟩
  | .enumR, [.str x], _ => if x.length ≤ line then some ⟨(x.cps.toList.reverse.map fun c => D.str ⟨#[c]⟩).zipIdx.map fun p => .tup [.int (p.2 : Int), p.1], none⟩ else none
  | .keys _ ks, [], _ => some ⟨ks.map D.str, none⟩
  | _, _, _ => none

noncomputable def itemsR (k : Ik) (ds : List D) (M : Store) : Rs Items := match items k ds M with
  | some it => rok it M
  | none => none
def kill : Sl → List Nat → Sl
  | δ, [] => δ
  | δ, i :: is => (kill δ is).set i none

noncomputable def compL (g : Option (Nat × List D)) (f : D → Store → Rs (List D)) : List D → Store → Rs (List D)
  | [], M => if gdOk g M then rok [] M else none
  | x :: xs, M => if gdOk g M then bnd (f x M) fun ys M1 => bnd (compL g f xs M1) fun zs M2 => rok (ys ++ zs) M2 else none

/-- a displayed dict's next pair -/
def setK (M : Store) (n : Nat) (d y : D) : Option Store := match M[n]? with
  | some (.dk _) => setD M n d y
  | _ => none
def putR (n : Nat) (k d : D) (M : Store) : Rs (List D) := match setK M n k d with
  | some M' => rok [] M'
  | none => none
def setF (f : Nat) (v : D) : List (Nat × D) → List (Nat × D)
  | [] => [(f, v)]
  | (g, w) :: r => if g = f then (g, v) :: r else (g, w) :: setF f v r

def isExr : D → Bool
  | .exr => true
  | _ => false
/-- a text as a key -/
def keyT : D → Option Str
  | .str x => some x
  | .sy k => some (nm k)
  | _ => none
def lookT (kvs : List (Str × D)) (z : Str) : Option D := (kvs.find? fun p => p.1 == z).map (·.2)
def tabR (q : Tq) (kvs : List (Str × D)) (k y : D) (M : Store) : Rs D := match keyT k with
  | some z => (match q with
    | .has => rok (.bl (lookT kvs z).isSome) M
    | .hasnt => rok (.bl (!(lookT kvs z).isSome)) M
    | .item => (match lookT kvs z with
      | some d => rok d M
      | none => none)
    | .get1 => rok ((lookT kvs z).getD .non) M
    | .get2 => rok ((lookT kvs z).getD y) M)
  | none => none
mutual
noncomputable def evE (v : Ev) : E → Sl → Store → Rs D
  | .var i, δ, M => match δ[i]? with
    | some (some d) => if isExr d = true then none else rok d M
    | _ => none
  | .lit d, _, M => rok d M
  | .glb _ d, _, M => rok d M
  | .op p m es, δ, M => bnd (evEs v es δ M) fun ds M1 => po m M1 (prim p ds M1)
  | .tup es, δ, M => bnd (evEs v es δ M) fun ds M1 => if ds.length ≤ line then rok (.tup ds) M1 else none
  | .lst m es, δ, M => bnd (evEs v es δ M) fun ds M1 => if ds.length ≤ line then some (mk m ds M1) else none
  | .andE a b, δ, M => bnd (evE v a δ M) fun d M1 => match truth M1 d with
    | some true => evE v b δ M1
    | some false => rok d M1
    | none => none
  | .orE a b, δ, M => bnd (evE v a δ M) fun d M1 => match truth M1 d with
    | some true => rok d M1
    | some false => evE v b δ M1
    | none => none
  | .notE a, δ, M => bnd (evE v a δ M) fun d M1 => match truth M1 d with
    | some b => rok (.bl (!b)) M1
    | none => none
  | .ite c a b, δ, M => bnd (evE v c δ M) fun d M1 => match truth M1 d with
    | some true => evE v a δ M1
    | some false => evE v b δ M1
    | none => none
  | .call f es, δ, M => bnd (evEs v es δ M) fun ds M1 => v.fn f ds M1
  | .meth p m o es, δ, M => bnd (evE v o δ M) fun d M1 => if recv p M1 d = true then bnd (evEs v es δ M1) fun ds M2 => po m M2 (prim p (d :: ds) M2) else none
  | .mcall c f m o es, δ, M => bnd (evE v o δ M) fun d M1 => match d with
    | .oid n => match M1[n]? with
      | some (.ins c' fs) => if c' = c ∧ fs.lookup m = none then bnd (evEs v es δ M1) fun ds M2 => v.fn f (.oid n :: ds) M2 else none
      | _ => none
    | _ => none
  | .prop c f o, δ, M => bnd (evE v o δ M) fun d M1 => match d with
    | .oid n => match M1[n]? with
      | some (.ins c' _) => if c' = c then nox (v.fn f [.oid n] M1) else none
      | _ => none
    | _ => none
  | .make c f es, δ, M => bnd (evEs v es δ M) fun ds M1 => bnd (v.fn f (.oid M1.length :: ds) (M1 ++ [.ins c []])) fun d M2 => match d with
    | .non => rok (.oid M1.length) M2
    | _ => none
  | .fld c e f, δ, M => bnd (evE v e δ M) fun d M1 => match d with
    | .oid n => match M1[n]? with
      | some (.ins c' fs) => if c' = c then match fs.lookup f with
          | some y => rok y M1
          | none => none
        else none
      | _ => none
    | _ => none
  | .sl3 m a b c, δ, M => bnd (evE v a δ M) fun d M1 => bnd (evE v b δ M1) fun d2 M2 => match d2 with
    | .int i => bnd (evE v c δ M2) fun d3 M3 => match d3 with
      | .int j => po m M3 (slice M3 d (some i) (some j))
      | _ => none
    | _ => none
  | .tab q _ kvs e d, δ, M => bnd (evE v e δ M) fun k M1 => if q = .get2 then bnd (evE v d δ M1) fun y M2 => tabR q kvs k y M2 else tabR q kvs k .non M1
  | .xis i h, δ, M => match δ[i]?, v.cx with
    | some (some .exr), some (x, j) => if j = i ∧ x.fs ≠ [] then rok (.bl (catches h x.cls)) M else none
    | _, _ => none
  | .xfld i f, δ, M => match δ[i]?, v.cx with
    | some (some .exr), some (x, j) => if j = i then match x.fs.lookup f with
        | some y => rok y M
        | none => none
      else none
    | _, _ => none
  | .chain p q a b c, δ, M => bnd (evE v a δ M) fun d1 M1 => bnd (evE v b δ M1) fun d2 M2 => match prim p [d1, d2] M2 with
    | some (.v (.bl true) M3) => bnd (evE v c δ M3) fun d3 M4 => match prim q [d2, d3] M4 with
      | some (.v d M5) => rok d M5
      | _ => none
    | some (.v (.bl false) M3) => rok (.bl false) M3
    | _ => none
  | .frz e, δ, M => bnd (evE v e δ M) fun d M1 => match d with
    | .oid n => match M1[n]? with
      | some (.lst xs) => rok (.lst xs) (M1.set n .dead)
      | _ => none
    | _ => none
  | .newD t, _, M => rok (.oid M.length) (M ++ [if t = true then .dt [] else .dk []])
  | .disp es, δ, M => bnd (evEs v es δ (M ++ [.dk []])) fun ds M1 => match M1[M.length]?, prsK ds with
    | some (.dk []), some kvs => if kvs.length ≤ 15 then rok (.oid M.length) (M1.set M.length (.dk (dispK kvs))) else none
    | _, _ => none
  | .comp m own elt t k es ifs, δ, M => bnd (bnd (evEs v es δ M) fun ds M1 => itemsR k ds M1) fun it M1 => if it.xs.length ≤ line then
      bnd (compL it.gd (fun x M2 => nox (bnd (evTg v t x (kill δ (own.map (·.2))) M2) fun δ' M3 => bnd (evIfs v ifs δ' M3) fun b M4 => if b = true then bnd (evE v elt δ' M4) fun d M5 => rok [d] M5 else rok [] M4)) it.xs M1) fun zs M2 => some (mk m zs M2)
    else none
  | .comp2 m own elt t k es t2 k2 es2, δ, M => bnd (bnd (evEs v es δ M) fun ds M1 => itemsR k ds M1) fun it M1 => if it.xs.length ≤ 4096 then
      bnd (compL it.gd (fun x M2 => nox (bnd (evTg v t x (kill δ (own.map (·.2))) M2) fun δ' M3 => bnd (bnd (evEs v es2 δ' M3) fun ds2 M4 => itemsR k2 ds2 M4) fun it2 M4 => if it2.xs.length ≤ 4096 then
          compL it2.gd (fun y M5 => bnd (evTg v t2 y (kill δ' t2.slots) M5) fun δ'' M6 => bnd (evE v elt δ'' M6) fun d M7 => rok [d] M7) it2.xs M4 else none)) it.xs M1) fun zs M2 => some (mk m zs M2)
    else none
  | .dcomp own kx vx t k es ifs, δ, M => bnd (bnd (evEs v es δ M) fun ds M1 => itemsR k ds M1) fun it M1 => if it.xs.length ≤ line then
      bnd (compL it.gd (fun x M2 => nox (bnd (evTg v t x (kill δ (own.map (·.2))) M2) fun δ' M3 => bnd (evIfs v ifs δ' M3) fun b M4 => if b = true then bnd (evE v kx δ' M4) fun kd M5 => bnd (evE v vx δ' M5) fun d M6 => putR M1.length kd d M6 else rok [] M4)) it.xs (M1 ++ [.dk []])) fun _ M2 => rok (.oid M1.length) M2
    else none
noncomputable def evEs (v : Ev) : Es → Sl → Store → Rs (List D)
  | .nil, _, M => rok [] M
  | .cons e es, δ, M => bnd (evE v e δ M) fun d M1 => bnd (evEs v es δ M1) fun ds M2 => rok (d :: ds) M2
noncomputable def evIfs (v : Ev) : Es → Sl → Store → Rs Bool
  | .nil, _, M => rok true M
  | .cons e es, δ, M => bnd (evE v e δ M) fun d M1 => match truth M1 d with
    | some true => evIfs v es δ M1
    | some false => rok false M1
    | none => none
noncomputable def evTg (v : Ev) : Tg → D → Sl → Store → Rs Sl
  | .nm i, d, δ, M => rok (δ.set i (some d)) M
  | .tup ts, d, δ, M => match viewS M d with
    | some xs => if xs.length = ts.len then evTgs v ts xs δ M else none
    | none => none
  | .sub o i, y, δ, M => bnd (evE v o δ M) fun d1 M1 => bnd (evE v i δ M1) fun d2 M2 => match d1, d2 with
    | .oid n, .int k => match M2[n]? with
      | some (.lst xs) => match ixN xs.length k with
        | some j => rok δ (M2.set n (.lst (xs.set j y)))
        | none => none
      | _ => none
    | _, _ => none
  | .dsub o i, y, δ, M => bnd (evE v o δ M) fun d1 M1 => bnd (evE v i δ M1) fun d2 M2 => match d1 with
    | .oid n => match setD M2 n d2 y with
      | some M3 => rok δ M3
      | none => none
    | _ => none
  | .att c o f, y, δ, M => bnd (evE v o δ M) fun d M1 => match d with
    | .oid n => match M1[n]? with
      | some (.ins c' fs) => if c' = c ∧ fs.length < 1000 then rok δ (M1.set n (.ins c (setF f y fs))) else none
      | _ => none
    | _ => none
  | .slc o a b, y, δ, M => bnd (evE v o δ M) fun d1 M1 => bnd (evE v a δ M1) fun d2 M2 => match d2 with
    | .int i => bnd (evE v b δ M2) fun d3 M3 => match d1, d3, y with
      | .oid n, .int j, .oid m => match M3[n]?, M3[m]? with
        | some (.lst xs), some (.lst ys) => if n ≠ m ∧ 0 ≤ i ∧ i ≤ j ∧ j ≤ (xs.length : Int) ∧ xs.length + ys.length ≤ line then rok δ (M3.set n (.lst (xs.take i.toNat ++ ys ++ xs.drop j.toNat))) else none
        | _, _ => none
      | _, _, _ => none
    | _ => none
noncomputable def evTgs (v : Ev) : Tgs → List D → Sl → Store → Rs Sl
  | .nil, xs, δ, M => match xs with
    | [] => rok δ M
    | _ => none
  | .cons t ts, xs, δ, M => match xs with
    | x :: r => bnd (evTg v t x δ M) fun δ' M1 => evTgs v ts r δ' M1
    | [] => none
end

/-! ### statements -/
mutual
inductive S where
  | exp (e : E) | asg (t : Tg) (e : E) | par (i j : Nat) (a b : E)
  | ret (e : E) | retN | pass | brk | cont | hole
  | ifS (c : E) (a b : Ss)
  | forS (t : Tg) (k : Ik) (es : Es) (b : Ss) (kl : List Nat)
  | whl (n : Nat) (c : E) (b : Ss) (kl : List Nat)
  | raise (c : Nat) (ks : List Nat) (es : Es)
  | tryS (b : Ss) (hs : Hs)
  | kil (s : S) (is : List Nat)
inductive Ss where
  | nil | cons (s : S) (r : Ss)
inductive Hs where
  | nil | cons (c : Nat) (i : Option Nat) (b : Ss) (r : Hs)
end
inductive SO where
  | nx (δ : Sl) (M : Store) | bk (δ : Sl) (M : Store) | ct (δ : Sl) (M : Store) | rt (d : D) (M : Store) | exc (x : Exn) (δ : Sl) (M : Store)
/-- an expression in a statement -/
def bndS {α : Type} (δ : Sl) (r : Rs α) (k : α → Store → Option SO) : Option SO := match r with
  | some (.ok a M) => k a M
  | some (.exc x M) => some (.exc x δ M)
  | none => none
@[simp] theorem bndS_ok {α : Type} (δ : Sl) (a : α) (M : Store) (k : α → Store → Option SO) : bndS δ (some (.ok a M)) k = k a M := rfl
@[simp] theorem bndS_exc {α : Type} (δ : Sl) (x : Exn) (M : Store) (k : α → Store → Option SO) : bndS δ (some (.exc x M)) k = some (.exc x δ M) := rfl
@[simp] theorem bndS_none {α : Type} (δ : Sl) (k : α → Store → Option SO) : bndS δ (none : Rs α) k = none := rfl

noncomputable def forL (g : Option (Nat × List D)) (kl : List Nat) (f : D → Sl → Store → Option SO) : List D → Sl → Store → Option SO
  | [], δ, M => if gdOk g M then some (.nx (kill δ kl) M) else none
  | x :: xs, δ, M => if gdOk g M then match f x δ M with
      | some (.nx δ' M') => forL g kl f xs (kill δ' kl) M'
      | some (.ct δ' M') => forL g kl f xs (kill δ' kl) M'
      | some (.bk δ' M') => some (.nx (kill δ' kl) M')
      | r => r
    else none
def whileL (kl : List Nat) (c : Sl → Store → Rs Bool) (f : Sl → Store → Option SO) : Nat → Sl → Store → Option SO
  | 0, _, _ => none
  | n + 1, δ, M => bndS δ (c δ M) fun b M1 => if b = true then match f δ M1 with
      | some (.nx δ' M') => whileL kl c f n (kill δ' kl) M'
      | some (.ct δ' M') => whileL kl c f n (kill δ' kl) M'
      | some (.bk δ' M') => some (.nx (kill δ' kl) M')
      | r => r
    else some (.nx (kill δ kl) M1)
/-- a test -/
noncomputable def evC (v : Ev) (c : E) (δ : Sl) (M : Store) : Rs Bool := bnd (evE v c δ M) fun d M1 => match truth M1 d with
  | some b => rok b M1
  | none => none

def noxS : Option SO → Option SO
  | some (.exc _ _ _) => none
  | r => r
/-- behind a named clause -/
def asS (i : Nat) : Option SO → Option SO
  | some (.nx δ' M') => some (.nx (δ'.set i none) M')
  | some (.bk δ' M') => some (.bk (δ'.set i none) M')
  | some (.ct δ' M') => some (.ct (δ'.set i none) M')
  | r => r

mutual
noncomputable def evS (v : Ev) : S → Sl → Store → Option SO
  | .exp e, δ, M => bndS δ (evE v e δ M) fun _ M1 => some (.nx δ M1)
  | .asg t e, δ, M => bndS δ (evE v e δ M) fun d M1 => bndS δ (nox (evTg v t d δ M1)) fun δ' M2 => some (.nx δ' M2)
  | .par i j a b, δ, M => bndS δ (evE v a δ M) fun d M1 => bndS δ (evE v b δ M1) fun e M2 => some (.nx ((δ.set i (some d)).set j (some e)) M2)
  | .ret e, δ, M => bndS δ (evE v e δ M) fun d M1 => some (.rt d M1)
  | .retN, _, M => some (.rt .non M)
  | .pass, δ, M => some (.nx δ M)
  | .brk, δ, M => some (.bk δ M)
  | .cont, δ, M => some (.ct δ M)
  | .hole, _, _ => none
  | .ifS c a b, δ, M => bndS δ (evC v c δ M) fun t M1 => if t = true then evSs v a δ M1 else evSs v b δ M1
  | .forS t k es b kl, δ, M => bndS δ (bnd (evEs v es δ M) fun ds M1 => itemsR k ds M1) fun it M1 => forL it.gd kl (fun x δ' M2 => bndS δ' (nox (evTg v t x δ' M2)) fun δ'' M3 => evSs v b δ'' M3) it.xs δ M1
  | .whl n c b kl, δ, M => whileL kl (evC v c) (evSs v b) n δ M
  | .raise c ks es, δ, M => bndS δ (evEs v es δ M) fun ds M1 => if ds.length = ks.length then some (.exc ⟨c, ks.zip ds⟩ δ M1) else none
  | .tryS b hs, δ, M => match evSs v b δ M with
    | some (.exc x δ' M') => if x.cls < v.exn then evHs v hs x δ' M' else none
    | r => r
  | .kil s is, δ, M => match evS v s δ M with
    | some (.nx δ' M') => some (.nx (kill δ' is) M')
    | r => r
noncomputable def evSs (v : Ev) : Ss → Sl → Store → Option SO
  | .nil, δ, M => some (.nx δ M)
  | .cons s r, δ, M => match evS v s δ M with
    | some (.nx δ' M') => evSs v r δ' M'
    | o => o
noncomputable def evHs (v : Ev) : Hs → Exn → Sl → Store → Option SO
  | .nil, x, δ, M => some (.exc x δ M)
  | .cons c i b r, x, δ, M => if catches c x.cls = true then
      match i with
      | none => noxS (evSs { v with cx := none } b δ M)
      | some i => asS i (noxS (evSs { v with cx := some (x, i) } b (δ.set i (some .exr)) M))
    else evHs v r x δ M
end

/-- a def's body at its arguments: N slots -/
noncomputable def evF (v : Ev) (n : Nat) (b : Ss) : Ctr := fun ds M => match evSs v b (ds.map some ++ List.replicate (n - ds.length) none) M with
  | some (.nx _ M') => rok .non M'
  | some (.rt d M') => rok d M'
  | some (.exc x _ M') => some (.exc x M')
  | _ => none
end Mo
/-! Mo1: what a tree value stands for in HandS's abstract heap. -/
namespace Mo
open PySem PySem.Spec PyProof.Rows L2

structure Wd where
  ad : List Addr
  fz : Addr → Prop
  pr : Addr → Prop := fun _ => False
structure Gd where
  K : PySem.W.Frag
  ca : Nat → Addr

/-- a list of the written part -/
def KL (K : PySem.W.Frag) (a : Addr) (xs : List V) : Prop :=
  ∃ (o : Obj) (its : Array Value) (n : Nat), K.lookup a = some o ∧ o.cls = .type "list" ∧ o.dict = none ∧ o.data = .seq its n ∧ its.size ≤ sizeLine ∧ Vals xs its.toList
/-- a list that nobody changes -/
def FzL (K : PySem.W.Frag) (W : Wd) (H : Hp) (a : Addr) (vs : List V) : Prop :=
  W.fz a ∧ H a = some (.lst vs)
/-- the script -/
def ScL (K : PySem.W.Frag) (H : Hp) (a : Addr) (vs : List V) : Prop := (∃ o, H a = some (.frz o (.lst vs))) ∨ KL K a vs
/-- a tuple of the written part -/
def KTp (K : PySem.W.Frag) (a : Addr) (xs : List V) : Prop :=
  ∃ (o : Obj) (its : Array Value) (n : Nat), K.lookup a = some o ∧ o.cls = .type "tuple" ∧ o.data = .seq its n ∧ its.size ≤ sizeLine ∧ Vals xs its.toList
theorem FzL.sq {K : PySem.W.Frag} {W : Wd} {H : Hp} {a : Addr} {vs : List V} (h : FzL K W H a vs) : SqL K H a vs := .inl (.inl h.2)
theorem ScL.sq {K : PySem.W.Frag} {H : Hp} {a : Addr} {vs : List V} (h : ScL K H a vs) : SqL K H a vs := by
  rcases h with ⟨o, h⟩ | h
  · exact .inl (.inr ⟨o, h⟩)
  · exact .inr h
mutual
def Rep (K : PySem.W.Frag) (W : Wd) (H : Hp) : D → V → Prop
  | .non, v => v = .non
  | .bl b, v => v = .bl b
  | .int i, v => v = .int i
  | .str x, v => v = .str x
  | .tup xs, v => ∃ a vs, v = .ref a ∧ H a = some (.tup vs) ∧ Reps K W H xs vs
  | .ktup xs, v => ∃ a vs, v = .ref a ∧ KTp K a vs ∧ Reps K W H xs vs
  | .lst xs, v => ∃ a vs, v = .ref a ∧ FzL K W H a vs ∧ Reps K W H xs vs
  | .oid n, v => ∃ a, v = .ref a ∧ W.ad[n]? = some a
  | .exr, _ => False
  | .sy n, v => v = .str (nm n)
  | .scr xs, v => ∃ a vs, v = .ref a ∧ ScL K H a vs ∧ Reps K W H xs vs
def Reps (K : PySem.W.Frag) (W : Wd) (H : Hp) : List D → List V → Prop
  | [], vs => vs = []
  | d :: ds, vs => ∃ v r, vs = v :: r ∧ Rep K W H d v ∧ Reps K W H ds r
end

structure Ext0 (K : PySem.W.Frag) (W : Wd) (H : Hp) (W' : Wd) (H' : Hp) : Prop where
  ad : ∀ (n : Nat) a, W.ad[n]? = some a → W'.ad[n]? = some a
  fz : ∀ a, W.fz a → W'.fz a
  fl : ∀ a, W.fz a → H' a = H a
  tups : ∀ a xs, H a = some (.tup xs) → H' a = some (.tup xs)
  frzs : ∀ a o u, H a = some (.frz o u) → H' a = some (.frz o u)
  xds : ∀ a fs, H a = some (.xd fs) → H' a = some (.xd fs)
structure Ext (K : PySem.W.Frag) (W : Wd) (H : Hp) (W' : Wd) (H' : Hp) : Prop extends Ext0 K W H W' H' where
  pr : ∀ a, W.pr a → W'.pr a
  pl : ∀ a, W.pr a → H' a = H a
theorem Ext0.refl {K : PySem.W.Frag} {W : Wd} {H : Hp} : Ext0 K W H W H := ⟨fun _ _ h => h, fun _ h => h, fun _ _ => rfl, fun _ _ h => h, fun _ _ _ h => h, fun _ _ h => h⟩
theorem Ext.refl {K : PySem.W.Frag} {W : Wd} {H : Hp} : Ext K W H W H := ⟨.refl, fun _ h => h, fun _ _ => rfl⟩
section
variable {K : PySem.W.Frag} {W W1 W2 W' : Wd} {H H1 H2 H' : Hp}
theorem Ext0.trans (a : Ext0 K W H W1 H1) (b : Ext0 K W1 H1 W2 H2) : Ext0 K W H W2 H2 :=
  ⟨fun n x h => b.ad n x (a.ad n x h), fun x h => b.fz x (a.fz x h), fun x h => (b.fl x (a.fz x h)).trans (a.fl x h), fun x xs h => b.tups x xs (a.tups x xs h), fun x o u h => b.frzs x o u (a.frzs x o u h), fun x fs h => b.xds x fs (a.xds x fs h)⟩
theorem Ext.trans (a : Ext K W H W1 H1) (b : Ext K W1 H1 W2 H2) : Ext K W H W2 H2 :=
  ⟨a.toExt0.trans b.toExt0, fun x h => b.pr x (a.pr x h), fun x h => (b.pl x (a.pr x h)).trans (a.pl x h)⟩
theorem Ext0.fzL (e : Ext0 K W H W' H') {a : Addr} {vs : List V} (h : FzL K W H a vs) : FzL K W' H' a vs := by
  obtain ⟨f, h⟩ := h
  exact ⟨e.fz _ f, (e.fl _ f).trans h⟩
theorem Ext0.scL (e : Ext0 K W H W' H') {a : Addr} {vs : List V} (h : ScL K H a vs) : ScL K H' a vs := by
  rcases h with ⟨o, h⟩ | h
  · exact .inl ⟨o, e.frzs _ _ _ h⟩
  · exact .inr h
mutual
theorem Rep.mono (e : Ext0 K W H W' H') : ∀ (d : D) (v : V), Rep K W H d v → Rep K W' H' d v
  | .non, _, h => h
  | .bl _, _, h => h
  | .int _, _, h => h
  | .str _, _, h => h
  | .sy _, _, h => h
  | .tup xs, _, ⟨a, vs, e1, h1, h2⟩ => ⟨a, vs, e1, e.tups _ _ h1, Reps.mono e xs vs h2⟩
  | .ktup xs, _, ⟨a, vs, e1, h1, h2⟩ => ⟨a, vs, e1, h1, Reps.mono e xs vs h2⟩
  | .lst xs, _, ⟨a, vs, e1, h1, h2⟩ => ⟨a, vs, e1, e.fzL h1, Reps.mono e xs vs h2⟩
  | .oid n, _, ⟨a, e1, h⟩ => ⟨a, e1, e.ad n a h⟩
  | .exr, _, h => h.elim
  | .scr xs, _, ⟨a, vs, e1, h1, h2⟩ => ⟨a, vs, e1, e.scL h1, Reps.mono e xs vs h2⟩
theorem Reps.mono (e : Ext0 K W H W' H') : ∀ (ds : List D) (vs : List V), Reps K W H ds vs → Reps K W' H' ds vs
  | [], _, h => h
  | d :: ds, _, ⟨v, r, e1, h1, h2⟩ => ⟨v, r, e1, Rep.mono e d v h1, Reps.mono e ds r h2⟩
end
theorem Rep.up {d : D} {v : V} (h : Rep K W H d v) (e : Ext K W H W' H') : Rep K W' H' d v := Rep.mono e.toExt0 d v h
theorem Rep.up0 {d : D} {v : V} (h : Rep K W H d v) (e : Ext0 K W H W' H') : Rep K W' H' d v := Rep.mono e d v h
theorem Reps.up {d : List D} {v : List V} (h : Reps K W H d v) (e : Ext K W H W' H') : Reps K W' H' d v := Reps.mono e.toExt0 d v h
theorem Reps.up0 {d : List D} {v : List V} (h : Reps K W H d v) (e : Ext0 K W H W' H') : Reps K W' H' d v := Reps.mono e d v h

/-! ### rows -/
theorem Reps.nil : Reps K W H [] [] := rfl
theorem Reps.cons {d : D} {v : V} {ds : List D} {vs : List V} (h : Rep K W H d v) (t : Reps K W H ds vs) : Reps K W H (d :: ds) (v :: vs) := ⟨v, vs, rfl, h, t⟩
theorem Rep.cons' {d : D} {v : V} {ds : List D} {vs : List V} (h : Rep K W H d v) (t : Reps K W H ds vs) : Reps K W H (d :: ds) (v :: vs) := ⟨v, vs, rfl, h, t⟩
theorem Reps.length : ∀ {ds : List D} {vs : List V}, Reps K W H ds vs → vs.length = ds.length
  | [], _, h => by rw [show _ = [] from h]; rfl
  | d :: ds, _, ⟨v, r, e, _, t⟩ => by rw [e, List.length_cons, List.length_cons, Reps.length t]
theorem Reps.nil_of : ∀ {ds : List D} {vs : List V}, Reps K W H ds vs → vs = [] → ds = []
  | [], _, _, _ => rfl
  | _ :: _, _, ⟨_, _, e, _, _⟩, z => by rw [z] at e; cases e
theorem Reps.get : ∀ {ds : List D} {vs : List V} {i : Nat} {d : D}, Reps K W H ds vs → ds[i]? = some d → ∃ v, vs[i]? = some v ∧ Rep K W H d v
  | [], _, i, _, _, e => by simp at e
  | d :: ds, _, 0, d', ⟨v, r, e1, h1, _⟩, e => by simp at e; subst e; subst e1; exact ⟨v, rfl, h1⟩
  | d :: ds, _, i + 1, d', ⟨v, r, e1, _, t⟩, e => by
    obtain ⟨w, h, q⟩ := Reps.get (i := i) t (by simpa using e)
    subst e1
    exact ⟨w, by simpa using h, q⟩
theorem Reps.append : ∀ {ds es : List D} {vs ws : List V}, Reps K W H ds vs → Reps K W H es ws → Reps K W H (ds ++ es) (vs ++ ws)
  | [], _, _, _, h, t => by rw [show _ = [] from h]; exact t
  | d :: ds, _, _, _, ⟨v, r, e, h, q⟩, t => by subst e; exact ⟨v, _, rfl, h, Reps.append q t⟩
theorem Reps.snoc {ds : List D} {d : D} {vs : List V} {v : V} (h : Reps K W H ds vs) (t : Rep K W H d v) : Reps K W H (ds ++ [d]) (vs ++ [v]) := h.append (.cons t .nil)
theorem Reps.take : ∀ {ds : List D} {vs : List V} (n : Nat), Reps K W H ds vs → Reps K W H (ds.take n) (vs.take n)
  | _, _, 0, _ => by simp only [List.take_zero]; exact .nil
  | [], _, _ + 1, h => by rw [show _ = [] from h]; exact .nil
  | d :: ds, _, n + 1, ⟨v, r, e, h, q⟩ => by subst e; exact ⟨v, _, rfl, h, Reps.take n q⟩
theorem Reps.drop : ∀ {ds : List D} {vs : List V} (n : Nat), Reps K W H ds vs → Reps K W H (ds.drop n) (vs.drop n)
  | _, _, 0, h => h
  | [], _, _ + 1, h => by rw [show _ = [] from h]; exact .nil
  | d :: ds, _, n + 1, ⟨v, r, e, h, q⟩ => by subst e; exact Reps.drop n q
theorem Reps.set {d : D} {v : V} (r : Rep K W H d v) : ∀ {ds : List D} {vs : List V} (n : Nat), Reps K W H ds vs → Reps K W H (ds.set n d) (vs.set n v)
  | [], _, _, h => by rw [show _ = [] from h]; exact .nil
  | d :: ds, _, 0, ⟨v, r', e, h, q⟩ => by subst e; exact ⟨_, _, rfl, r, q⟩
  | d :: ds, _, n + 1, ⟨v, r', e, h, q⟩ => by subst e; exact ⟨_, _, rfl, h, Reps.set r n q⟩
theorem Reps.reverse : ∀ {ds : List D} {vs : List V}, Reps K W H ds vs → Reps K W H ds.reverse vs.reverse
  | [], _, h => by rw [show _ = [] from h]; exact .nil
  | d :: ds, _, ⟨v, r, e, h, q⟩ => by subst e; rw [List.reverse_cons, List.reverse_cons]; exact (Reps.reverse q).snoc h
theorem Reps.flat {ds : List D} {vs : List V} (h : Reps K W H ds vs) : ∀ n : Nat, Reps K W H (List.replicate n ds).flatten (List.replicate n vs).flatten
  | 0 => .nil
  | n + 1 => by rw [List.replicate_succ, List.replicate_succ, List.flatten_cons, List.flatten_cons]; exact h.append (Reps.flat h n)
theorem Reps.one {d : D} {vs : List V} (h : Reps K W H [d] vs) : ∃ v, vs = [v] ∧ Rep K W H d v := by
  obtain ⟨v, r, e, h1, h2⟩ := h
  rw [show r = [] from h2] at e
  exact ⟨v, e, h1⟩
theorem Reps.two {d e : D} {vs : List V} (h : Reps K W H [d, e] vs) : ∃ v w, vs = [v, w] ∧ Rep K W H d v ∧ Rep K W H e w := by
  obtain ⟨v, r, e1, h1, h2⟩ := h
  obtain ⟨w, e2, h3⟩ := Reps.one h2
  exact ⟨v, w, by rw [e1, e2], h1, h3⟩
theorem Reps.three {d e f : D} {vs : List V} (h : Reps K W H [d, e, f] vs) : ∃ v w x, vs = [v, w, x] ∧ Rep K W H d v ∧ Rep K W H e w ∧ Rep K W H f x := by
  obtain ⟨v, r, e1, h1, h2⟩ := h
  obtain ⟨w, x, e2, h3, h4⟩ := Reps.two h2
  exact ⟨v, w, x, by rw [e1, e2], h1, h3, h4⟩
theorem Reps.ints : ∀ ns : List Int, Reps K W H (ns.map D.int) (ns.map V.int)
  | [] => .nil
  | n :: ns => .cons rfl (Reps.ints ns)

/-! ### the store -/
/-- fields by name -/
def RepF (K : PySem.W.Frag) (W : Wd) (H : Hp) : List (Nat × D) → List (Str × V) → Prop
  | [], fs => fs = []
  | (f, d) :: ds, fs => ∃ v r, fs = (nm f, v) :: r ∧ Rep K W H d v ∧ RepF K W H ds r
def RepK {κ : Type} (K : PySem.W.Frag) (W : Wd) (H : Hp) : List (κ × D) → List (κ × V) → Prop
  | [], fs => fs = []
  | (f, d) :: ds, fs => ∃ v r, fs = (f, v) :: r ∧ Rep K W H d v ∧ RepK K W H ds r
theorem RepF.mono (e : Ext0 K W H W' H') : ∀ {ds : List (Nat × D)} {fs : List (Str × V)}, RepF K W H ds fs → RepF K W' H' ds fs
  | [], _, h => h
  | (f, d) :: ds, _, ⟨v, r, e1, h1, h2⟩ => ⟨v, r, e1, h1.up0 e, RepF.mono e h2⟩
theorem RepK.mono {κ : Type} (e : Ext0 K W H W' H') : ∀ {ds : List (κ × D)} {fs : List (κ × V)}, RepK K W H ds fs → RepK K W' H' ds fs
  | [], _, h => h
  | (f, d) :: ds, _, ⟨v, r, e1, h1, h2⟩ => ⟨v, r, e1, h1.up0 e, RepK.mono e h2⟩
theorem RepF.length : ∀ {ds : List (Nat × D)} {fs : List (Str × V)}, RepF K W H ds fs → fs.length = ds.length
  | [], _, h => by rw [show _ = [] from h]; rfl
  | (f, d) :: ds, _, ⟨v, r, e, _, t⟩ => by rw [e, List.length_cons, List.length_cons, RepF.length t]
theorem RepK.length {κ : Type} : ∀ {ds : List (κ × D)} {fs : List (κ × V)}, RepK K W H ds fs → fs.length = ds.length
  | [], _, h => by rw [show _ = [] from h]; rfl
  | (f, d) :: ds, _, ⟨v, r, e, _, t⟩ => by rw [e, List.length_cons, List.length_cons, RepK.length t]
theorem RepF.look : ∀ {ds : List (Nat × D)} {fs : List (Str × V)} {f : Nat} {d : D}, RepF K W H ds fs → ds.lookup f = some d → ∃ v, fs.lookup (nm f) = some v ∧ Rep K W H d v
  | [], _, _, _, _, e => by simp at e
  | (g, d) :: ds, _, f, d', ⟨v, r, e1, h1, h2⟩, e => by
    subst e1
    rw [List.lookup_cons] at e ⊢
    rw [nm_beq]
    cases q : f == g with
    | true => rw [q] at e; cases e; exact ⟨v, rfl, h1⟩
    | false => rw [q] at e; exact RepF.look h2 e
theorem RepF.none : ∀ {ds : List (Nat × D)} {fs : List (Str × V)} {f : Nat}, RepF K W H ds fs → ds.lookup f = .none → fs.lookup (nm f) = .none
  | [], _, _, h, _ => by rw [show _ = [] from h]; rfl
  | (g, d) :: ds, _, f, ⟨v, r, e1, h1, h2⟩, e => by
    subst e1
    rw [List.lookup_cons] at e ⊢
    rw [nm_beq]
    cases q : f == g with
    | true => rw [q] at e; cases e
    | false => rw [q] at e; exact RepF.none h2 e
theorem RepF.put {f : Nat} {d : D} {v : V} (r : Rep K W H d v) : ∀ {ds : List (Nat × D)} {fs : List (Str × V)}, RepF K W H ds fs → RepF K W H (setF f d ds) (L2.putF (nm f) v fs)
  | [], _, h => by rw [show _ = [] from h]; exact ⟨v, [], rfl, r, rfl⟩
  | (g, d') :: ds, _, ⟨v', r', e1, h1, h2⟩ => by
    subst e1
    unfold setF L2.putF
    by_cases q : g = f
    · rw [if_pos q, if_pos (nm_eq.mpr q)]; exact ⟨v, r', rfl, r, h2⟩
    · rw [if_neg q, if_neg fun z => q (nm_inj z)]; exact ⟨v', _, rfl, h1, RepF.put r h2⟩
theorem RepK.look {κ : Type} [DecidableEq κ] : ∀ {ds : List (κ × D)} {fs : List (κ × V)} (k : κ), RepK K W H ds fs → (∀ d, lookK ds k = some d → ∃ v, L2.valV fs k = some v ∧ Rep K W H d v) ∧ (lookK ds k = .none → L2.valV fs k = .none)
  | [], _, k, h => by rw [show _ = [] from h]; exact ⟨fun d e => by simp [lookK] at e, fun _ => rfl⟩
  | (g, d) :: ds, _, k, ⟨v, r, e1, h1, h2⟩ => by
    subst e1
    have ih := RepK.look k h2
    by_cases q : g = k
    · have a : lookK ((g, d) :: ds) k = some d := by simp [lookK, List.find?_cons, q]
      have b : L2.valV ((g, v) :: r) k = some v := by rw [L2.valV_pos q]
      rw [a, b]
      exact ⟨fun d' e => by cases e; exact ⟨v, rfl, h1⟩, fun e => nomatch e⟩
    · have a : lookK ((g, d) :: ds) k = lookK ds k := by simp [lookK, List.find?_cons, q]
      have b : L2.valV ((g, v) :: r) k = L2.valV r k := L2.valV_neg q
      rw [a, b]
      exact ih
theorem RepK.any {κ : Type} [DecidableEq κ] {k : κ} : ∀ {ds : List (κ × D)} {fs : List (κ × V)}, RepK K W H ds fs → (ds.any fun kv => decide (kv.1 = k)) = (fs.any fun kv => decide (kv.1 = k))
  | [], _, h => by rw [show _ = [] from h]; rfl
  | (g, d) :: ds, _, ⟨v, r, e1, h1, h2⟩ => by subst e1; rw [List.any_cons, List.any_cons, RepK.any h2]
theorem RepK.rep {κ : Type} [DecidableEq κ] {k : κ} {d : D} {v : V} (r : Rep K W H d v) : ∀ {ds : List (κ × D)} {fs : List (κ × V)}, RepK K W H ds fs →
    RepK K W H (ds.map fun kv => if kv.1 = k then (kv.1, d) else kv) (fs.map fun kv => if kv.1 = k then (kv.1, v) else kv)
  | [], _, h => by rw [show _ = [] from h]; exact rfl
  | (g, d') :: ds, _, ⟨v', r', e1, h1, h2⟩ => by
    subst e1
    rw [List.map_cons, List.map_cons]
    by_cases q : g = k
    · rw [if_pos q, if_pos q]; exact ⟨v, _, rfl, r, RepK.rep r h2⟩
    · rw [if_neg q, if_neg q]; exact ⟨v', _, rfl, h1, RepK.rep r h2⟩
theorem RepK.snoc {κ : Type} {k : κ} {d : D} {v : V} (r : Rep K W H d v) : ∀ {ds : List (κ × D)} {fs : List (κ × V)}, RepK K W H ds fs → RepK K W H (ds ++ [(k, d)]) (fs ++ [(k, v)])
  | [], _, h => by rw [show _ = [] from h]; exact ⟨v, [], rfl, r, rfl⟩
  | (g, d') :: ds, _, ⟨v', r', e1, h1, h2⟩ => by subst e1; exact ⟨v', _, rfl, h1, RepK.snoc r h2⟩
theorem RepK.put {κ : Type} [DecidableEq κ] {k : κ} {d : D} {v : V} (r : Rep K W H d v) {ds : List (κ × D)} {fs : List (κ × V)} (h : RepK K W H ds fs) : RepK K W H (storeK ds k d) (L2.putK fs k v) := by
  unfold storeK L2.putK
  rw [RepK.any h]
  split
  · exact h.rep r
  · exact h.snoc r
end

/-- what stands at a store's address -/
def ObR (g : Gd) (W : Wd) (H : Hp) (a : Addr) : Ob → Prop
  | .dead => True
  | .lst xs => ∃ vs, H a = some (.lst vs) ∧ Reps g.K W H xs vs
  | .ins c fs => ∃ dx fv, H a = some (.ins (g.ca c) dx fv) ∧ RepF g.K W H fs fv
  | .dk kvs => ∃ ks, H a = some (.dK ks) ∧ RepK g.K W H kvs ks
  | .dt kvs => ∃ ks, H a = some (.dT ks) ∧ RepK g.K W H kvs ks
structure SR (g : Gd) (W : Wd) (H : Hp) (M : Store) : Prop where
  len : W.ad.length = M.length
  nd : W.ad.Nodup
  ob : ∀ (n : Nat) o a, M[n]? = some o → W.ad[n]? = some a → ObR g W H a o
  nf : ∀ (n : Nat) o a, M[n]? = some o → W.ad[n]? = some a → o ≠ .dead → ¬ W.fz a
  al : ∀ (n : Nat) a, W.ad[n]? = some a → H a ≠ none
  fa : ∀ a, W.fz a → ∃ xs, H a = some (.lst xs)
  pa : ∀ a, W.pr a → H a ≠ none ∧ ¬ W.fz a ∧ a ∉ W.ad
theorem nodupA {α : Type} {N : List α} (hN : N.Nodup) {i j : Nat} {x : α} (a : N[i]? = some x) (b : N[j]? = some x) : i = j := by
  obtain ⟨h1, e1⟩ := List.getElem?_eq_some_iff.mp a
  obtain ⟨h2, e2⟩ := List.getElem?_eq_some_iff.mp b
  exact (List.getElem_inj hN).mp (e1.trans e2.symm)
section
variable {g : Gd} {W W' : Wd} {H H' : Hp} {M : Store}
theorem SR.at (s : SR g W H M) {n : Nat} {o : Ob} (h : M[n]? = some o) : ∃ a, W.ad[n]? = some a ∧ ObR g W H a o := by
  have hn : n < W.ad.length := by rw [s.len]; exact (List.getElem?_eq_some_iff.mp h).1
  exact ⟨W.ad[n], List.getElem?_eq_getElem hn, s.ob n o _ h (List.getElem?_eq_getElem hn)⟩
theorem SR.freshP (s : SR g W H M) {p : Addr} (hp : H p = none) : ¬ W.pr p := fun q => (s.pa p q).1 hp
theorem SR.fresh (s : SR g W H M) {p : Addr} (hp : H p = none) : ¬ W.fz p ∧ p ∉ W.ad := by
  refine ⟨fun q => ?_, fun q => ?_⟩
  · obtain ⟨xs, e⟩ := s.fa p q
    rw [hp] at e; cases e
  · obtain ⟨n, e⟩ := List.mem_iff_getElem?.mp q
    exact s.al n p e hp
theorem ObR.mono (e : Ext0 g.K W H W' H') {a : Addr} (ha : H' a = H a) : ∀ {o : Ob}, ObR g W H a o → ObR g W' H' a o
  | .dead, h => h
  | .lst xs, ⟨vs, h, r⟩ => ⟨vs, ha.trans h, r.up0 e⟩
  | .ins c fs, ⟨dx, fv, h, r⟩ => ⟨dx, fv, ha.trans h, r.mono e⟩
  | .dk kvs, ⟨ks, h, r⟩ => ⟨ks, ha.trans h, r.mono e⟩
  | .dt kvs, ⟨ks, h, r⟩ => ⟨ks, ha.trans h, r.mono e⟩
/-- a new object beside -/
theorem Ext.new {K : PySem.W.Frag} {o : HO} {p : Addr} (hp : H p = none) (nf : ¬ W.fz p) (np : ¬ W.pr p) : Ext K W H W (upd H p o) where
  pr := fun _ h => h
  pl := fun a h => upd_ne (show a ≠ p from fun z => np (z ▸ h))
  ad := fun _ _ h => h
  fz := fun _ h => h
  fl := fun a h => upd_ne (show a ≠ p from fun z => nf (z ▸ h))
  tups := fun a xs h => by rw [upd_ne (ne_of_none h hp)]; exact h
  frzs := fun a o u h => by rw [upd_ne (ne_of_none h hp)]; exact h
  xds := fun a fs h => by rw [upd_ne (ne_of_none h hp)]; exact h
/-- an object that nothing of ours is -/
theorem SR.beside (s : SR g W H M) {o : HO} {p : Addr} (hp : H p = none) : Ext g.K W H W (upd H p o) ∧ SR g W (upd H p o) M := by
  obtain ⟨nf, na⟩ := s.fresh hp
  have np := s.freshP hp
  have e : Ext g.K W H W (upd H p o) := .new hp nf np
  have ne : ∀ (n : Nat) a, W.ad[n]? = some a → a ≠ p := fun n a h z => na (z ▸ List.mem_of_getElem? h)
  refine ⟨e, s.len, s.nd, fun n o' a h1 h2 => (s.ob n o' a h1 h2).mono e.toExt0 (upd_ne (ne n a h2)), s.nf, fun n a h => by rw [upd_ne (ne n a h)]; exact s.al n a h, fun a h => ?_, fun a h => ?_⟩
  · obtain ⟨xs, q⟩ := s.fa a h
    exact ⟨xs, by rw [upd_ne (show a ≠ p from fun z => nf (z ▸ h))]; exact q⟩
  · rw [upd_ne (show a ≠ p from fun z => np (z ▸ h))]; exact s.pa a h
/-- a new object of the store -/
theorem SR.push (s : SR g W H M) {o : HO} {p : Addr} {b : Ob} (hp : H p = none)
    (hb : ∀ W', Ext g.K W H W' (upd H p o) → ObR g W' (upd H p o) p b) : ∃ W', W' = { W with ad := W.ad ++ [p] } ∧ Ext g.K W H W' (upd H p o) ∧ SR g W' (upd H p o) (M ++ [b]) := by
  obtain ⟨nf, na⟩ := s.fresh hp
  have np := s.freshP hp
  have e0 : Ext g.K W H W (upd H p o) := .new hp nf np
  have e : Ext g.K W H { W with ad := W.ad ++ [p] } (upd H p o) := ⟨⟨fun n a h => by
    show (W.ad ++ [p])[n]? = some a
    rw [List.getElem?_append_left (List.getElem?_eq_some_iff.mp h).1]; exact h, fun _ h => h, e0.fl, e0.tups, e0.frzs, e0.xds⟩, fun _ h => h, e0.pl⟩
  have ne : ∀ (n : Nat) a, W.ad[n]? = some a → a ≠ p := fun n a h z => na (z ▸ List.mem_of_getElem? h)
  have cases2 : ∀ (n : Nat) o' a, (M ++ [b])[n]? = some o' → (W.ad ++ [p])[n]? = some a → (M[n]? = some o' ∧ W.ad[n]? = some a) ∨ (o' = b ∧ a = p) := fun n o' a h1 h2 => by
    by_cases hn : n < M.length
    · rw [List.getElem?_append_left hn] at h1
      rw [List.getElem?_append_left (by rw [s.len]; exact hn)] at h2
      exact .inl ⟨h1, h2⟩
    · rw [List.getElem?_append_right (by omega)] at h1
      rw [List.getElem?_append_right (by rw [s.len]; omega), s.len] at h2
      cases q : n - M.length with
      | zero => rw [q] at h1 h2; exact .inr ⟨(Option.some.inj h1).symm, (Option.some.inj h2).symm⟩
      | succ k => rw [q] at h1; simp at h1
  refine ⟨_, rfl, e, ?_, ?_, fun n o' a h1 h2 => ?_, fun n o' a h1 h2 hd => ?_, fun n a h => ?_, fun a h => ?_, fun a h => ?_⟩
  · show (W.ad ++ [p]).length = _
    rw [List.length_append, List.length_append, s.len]; rfl
  · show (W.ad ++ [p]).Nodup
    rw [List.nodup_append]
    exact ⟨s.nd, List.nodup_cons.mpr ⟨by simp, List.nodup_nil⟩, fun x hx y hy z => by rw [List.mem_singleton] at hy; subst hy; subst z; exact na hx⟩
  · rcases cases2 n o' a h1 h2 with ⟨h1, h2⟩ | ⟨h1, h2⟩
    · exact (s.ob n o' a h1 h2).mono e.toExt0 (upd_ne (ne n a h2))
    · subst h1; subst h2; exact hb _ e
  · rcases cases2 n o' a h1 h2 with ⟨h1, h2⟩ | ⟨h1, h2⟩
    · exact s.nf n o' a h1 h2 hd
    · subst h2; exact nf
  · have h' : (W.ad ++ [p])[n]? = some a := h
    by_cases hn : n < W.ad.length
    · rw [List.getElem?_append_left hn] at h'
      rw [upd_ne (ne n a h')]; exact s.al n a h'
    · rw [List.getElem?_append_right (by omega)] at h'
      cases q : n - W.ad.length with
      | zero => rw [q] at h'; rw [← Option.some.inj h', upd_same]; simp
      | succ k => rw [q] at h'; simp at h'
  · obtain ⟨xs, q⟩ := s.fa a h
    exact ⟨xs, by rw [upd_ne (show a ≠ p from fun z => nf (z ▸ h))]; exact q⟩
  · have hne : a ≠ p := fun z => np (z ▸ h)
    obtain ⟨h1, h2, h3⟩ := s.pa a h
    rw [upd_ne hne]
    refine ⟨h1, h2, fun q => ?_⟩
    rcases List.mem_append.mp (show a ∈ W.ad ++ [p] from q) with q | q
    · exact h3 q
    · exact hne (List.mem_singleton.mp q)
/-- a new frozen list -/
theorem SR.freeze (s : SR g W H M) {p : Addr} {vs : List V} (hp : H p = none) : ∃ W', W' = { W with fz := fun a => W.fz a ∨ a = p } ∧ Ext g.K W H W' (upd H p (.lst vs)) ∧ SR g W' (upd H p (.lst vs)) M := by
  obtain ⟨nf, na⟩ := s.fresh hp
  have np := s.freshP hp
  have e0 : Ext g.K W H W (upd H p (.lst vs)) := .new hp nf np
  have e : Ext g.K W H { W with fz := fun a => W.fz a ∨ a = p } (upd H p (.lst vs)) := ⟨⟨fun _ _ h => h, fun _ h => .inl h, e0.fl, e0.tups, e0.frzs, e0.xds⟩, fun _ h => h, e0.pl⟩
  have ne : ∀ (n : Nat) a, W.ad[n]? = some a → a ≠ p := fun n a h z => na (z ▸ List.mem_of_getElem? h)
  refine ⟨_, rfl, e, s.len, s.nd, fun n o a h1 h2 => (s.ob n o a h1 h2).mono e.toExt0 (upd_ne (ne n a h2)), fun n o a h1 h2 hd q => ?_, fun n a h => by rw [upd_ne (ne n a h)]; exact s.al n a h, fun a h => ?_, fun a h => ?_⟩
  · rcases q with q | q
    · exact s.nf n o a h1 h2 hd q
    · exact ne n a h2 q
  · rcases h with h | h
    · obtain ⟨xs, q⟩ := s.fa a h
      exact ⟨xs, by rw [upd_ne (show a ≠ p from fun z => nf (z ▸ h))]; exact q⟩
    · subst h; exact ⟨vs, upd_same⟩
  · have hne : a ≠ p := fun z => np (z ▸ h)
    obtain ⟨h1, h2, h3⟩ := s.pa a h
    rw [upd_ne hne]
    exact ⟨h1, fun q => q.elim h2 hne, h3⟩
/-- an object of the store changes -/
theorem SR.write (s : SR g W H M) {n : Nat} {a : Addr} {o b : Ob} {h : HO} (ho : M[n]? = some o) (ha : W.ad[n]? = some a) (hd : o ≠ .dead)
    (hb : Ext g.K W H W (upd H a h) → ObR g W (upd H a h) a b) : Ext g.K W H W (upd H a h) ∧ SR g W (upd H a h) (M.set n b) := by
  have nf := s.nf n o a ho ha hd
  have r := s.ob n o a ho ha
  have ne : ∀ x u, H x = some u → (∀ vs, u ≠ .lst vs) → (∀ c d f, u ≠ .ins c d f) → (∀ k, u ≠ .dK k) → (∀ k, u ≠ .dT k) → x ≠ a := fun x u hx h1 h2 h3 h4 z => by
    subst z
    cases o with
    | dead => exact hd rfl
    | lst xs => obtain ⟨vs, e, _⟩ := r; rw [hx] at e; exact h1 vs (Option.some.inj e)
    | ins c fs => obtain ⟨dx, fv, e, _⟩ := r; rw [hx] at e; exact h2 _ _ _ (Option.some.inj e)
    | dk k => obtain ⟨ks, e, _⟩ := r; rw [hx] at e; exact h3 _ (Option.some.inj e)
    | dt k => obtain ⟨ks, e, _⟩ := r; rw [hx] at e; exact h4 _ (Option.some.inj e)
  have npa : ∀ x, W.pr x → x ≠ a := fun x q z => (s.pa x q).2.2 (z ▸ List.mem_of_getElem? ha)
  have e : Ext g.K W H W (upd H a h) := ⟨⟨fun _ _ q => q, fun _ q => q, fun x q => upd_ne fun z => nf (z ▸ q),
    fun x xs q => by rw [upd_ne (ne x _ q (by intro _ z; cases z) (by intro _ _ _ z; cases z) (by intro _ z; cases z) (by intro _ z; cases z))]; exact q,
    fun x o u q => by rw [upd_ne (ne x _ q (by intro _ z; cases z) (by intro _ _ _ z; cases z) (by intro _ z; cases z) (by intro _ z; cases z))]; exact q,
    fun x fs q => by rw [upd_ne (ne x _ q (by intro _ z; cases z) (by intro _ _ _ z; cases z) (by intro _ z; cases z) (by intro _ z; cases z))]; exact q⟩, fun _ q => q, fun x q => upd_ne (npa x q)⟩
  have hn : n < M.length := (List.getElem?_eq_some_iff.mp ho).1
  have other : ∀ (m : Nat) x, W.ad[m]? = some x → m ≠ n → x ≠ a := fun m x hx hm z => by
    subst z
    exact hm (nodupA s.nd hx ha)
  refine ⟨e, by rw [List.length_set]; exact s.len, s.nd, fun m o' x h1 h2 => ?_, fun m o' x h1 h2 h3 => ?_, fun m x hx => ?_, fun x q => ?_, fun x q => by rw [upd_ne (npa x q)]; exact s.pa x q⟩
  · by_cases hm : m = n
    · subst hm
      rw [List.getElem?_set_self hn] at h1
      rw [ha] at h2
      cases h1; cases h2
      exact hb e
    · rw [List.getElem?_set_ne (Ne.symm hm)] at h1
      exact (s.ob m o' x h1 h2).mono e.toExt0 (upd_ne (other m x h2 hm))
  · by_cases hm : m = n
    · subst hm
      rw [ha] at h2
      cases h2
      exact nf
    · rw [List.getElem?_set_ne (Ne.symm hm)] at h1
      exact s.nf m o' x h1 h2 h3
  · by_cases hx' : x = a
    · subst hx'; rw [upd_same]; simp
    · rw [upd_ne hx']; exact s.al m x hx
  · obtain ⟨xs, z⟩ := s.fa x q
    exact ⟨xs, by rw [upd_ne (show x ≠ a from fun z' => nf (z' ▸ q))]; exact z⟩
/-- a list of the store is frozen -/
theorem SR.thaw (s : SR g W H M) {n : Nat} {a : Addr} {xs : List D} (ho : M[n]? = some (.lst xs)) (ha : W.ad[n]? = some a) :
    ∃ W', W' = { W with fz := fun b => W.fz b ∨ b = a } ∧ Ext g.K W H W' H ∧ SR g W' H (M.set n .dead) ∧ Rep g.K W' H (.lst xs) (.ref a) := by
  obtain ⟨vs, e1, r⟩ := s.ob n _ a ho ha
  have e : Ext g.K W H { W with fz := fun b => W.fz b ∨ b = a } H := ⟨⟨fun _ _ h => h, fun _ h => .inl h, fun _ _ => rfl, fun _ _ h => h, fun _ _ _ h => h, fun _ _ h => h⟩, fun _ h => h, fun _ _ => rfl⟩
  have hn : n < M.length := (List.getElem?_eq_some_iff.mp ho).1
  refine ⟨_, rfl, e, ⟨by rw [List.length_set]; exact s.len, s.nd, fun m o x h1 h2 => ?_, fun m o x h1 h2 h3 => ?_, s.al, fun x q => ?_, fun x q => ⟨(s.pa x q).1, fun z => z.elim (s.pa x q).2.1 fun z => (s.pa x q).2.2 (z ▸ List.mem_of_getElem? ha), (s.pa x q).2.2⟩⟩, a, vs, rfl, ⟨.inr rfl, e1⟩, r.up e⟩
  · by_cases hm : m = n
    · subst hm
      rw [List.getElem?_set_self hn] at h1
      cases h1
      exact True.intro
    · rw [List.getElem?_set_ne (Ne.symm hm)] at h1
      exact (s.ob m o x h1 h2).mono e.toExt0 rfl
  · by_cases hm : m = n
    · subst hm
      rw [List.getElem?_set_self hn] at h1
      cases h1
      exact absurd rfl h3
    · rw [List.getElem?_set_ne (Ne.symm hm)] at h1
      rintro (q | q)
      · exact s.nf m o x h1 h2 h3 q
      · subst q; exact hm (nodupA s.nd h2 ha)
  · rcases q with q | q
    · exact s.fa x q
    · subst q; exact ⟨vs, e1⟩
/-- the last objects are forgotten -/
theorem SR.drop {N : Store} (s : SR g W H (M ++ N)) (wf : ∀ (n : Nat) o, M[n]? = some o → ∀ a, ObR g W H a o → ObR g { W with ad := W.ad.take M.length } H a o) : SR g { W with ad := W.ad.take M.length } H M := by
  have hl : M.length ≤ W.ad.length := by rw [s.len, List.length_append]; omega
  have get : ∀ (n : Nat) a, (W.ad.take M.length)[n]? = some a → W.ad[n]? = some a := fun n a h => by
    rw [List.getElem?_take] at h
    split at h
    · exact h
    · cases h
  have getM : ∀ (n : Nat) o, M[n]? = some o → (M ++ N)[n]? = some o := fun n o h => by
    rw [List.getElem?_append_left (List.getElem?_eq_some_iff.mp h).1]; exact h
  refine ⟨?_, s.nd.sublist (List.take_sublist _ _), fun n o a h1 h2 => wf n o h1 a (s.ob n o a (getM n o h1) (get n a h2)), fun n o a h1 h2 h3 => s.nf n o a (getM n o h1) (get n a h2) h3, fun n a h => s.al n a (get n a h), s.fa, fun a h => ⟨(s.pa a h).1, (s.pa a h).2.1, fun q => (s.pa a h).2.2 (List.mem_of_mem_take q)⟩⟩
  show (W.ad.take M.length).length = _
  rw [List.length_take]; omega
end
end Mo
/-! Mo2: operations by values keep what they say. -/
namespace Mo
open PySem PySem.Spec PyProof.Rows L2

def PRes (g : Gd) (W : Wd) (H : Hp) (Q : VK) : Option PO → Prop
  | some (.v d M') => ∀ W' H' v, Ext g.K W H W' H' → SR g W' H' M' → Rep g.K W' H' d v → Q v H'
  | some (.nl xs) => ∀ p vs, H p = none → Reps g.K W H xs vs → Q (.ref p) (upd H p (.lst vs))
  | none => False
def Ok1 (g : Gd) (r : V → Hp → VK → Prop) (p : List D → Store → Option PO) : Prop :=
  ∀ W H M d x Q, SR g W H M → Rep g.K W H d x → PRes g W H Q (p [d] M) → r x H Q
def Ok2 (g : Gd) (r : R2) (p : List D → Store → Option PO) : Prop :=
  ∀ W H M d e x y Q, SR g W H M → Rep g.K W H d x → Rep g.K W H e y → PRes g W H Q (p [d, e] M) → r x y H Q

theorem sizeLine_line : sizeLine = line := sizeLine_eq
section
variable {g : Gd} {W : Wd} {H : Hp} {M : Store} {Q : VK}
theorem PRes.same {d : D} (h : PRes g W H Q (some (.v d M))) (s : SR g W H M) {v : V} (r : Rep g.K W H d v) : Q v H := h W H v .refl s r
/-- a list that is to be read -/
theorem sq_of (s : SR g W H M) {d : D} {x : V} {xs : List D} (r : Rep g.K W H d x) (h : viewL M d = some xs) : ∃ a vs, x = .ref a ∧ SqL g.K H a vs ∧ Reps g.K W H xs vs := by
  cases d with
  | lst ys => cases h; obtain ⟨a, vs, e, f, t⟩ := r; exact ⟨a, vs, e, f.sq, t⟩
  | scr ys => cases h; obtain ⟨a, vs, e, f, t⟩ := r; exact ⟨a, vs, e, f.sq, t⟩
  | oid n =>
    obtain ⟨a, ea, ev, hv, t⟩ := s.at (viewL_iff.mp h)
    obtain ⟨b, eb, hb⟩ := r
    rw [ea] at hb; cases hb
    exact ⟨a, ev, eb, .of hv, t⟩
  | non => cases h
  | bl _ => cases h
  | int _ => cases h
  | str _ => cases h
  | sy _ => cases h
  | tup _ => cases h
  | exr => cases h
  | ktup _ => cases h
theorem hp_of (s : SR g W H M) {d : D} {x : V} {xs : List D} (r : Rep g.K W H d x) (h : viewH M d = some xs) : ∃ a vs, x = .ref a ∧ H a = some (.lst vs) ∧ Reps g.K W H xs vs := by
  cases d with
  | lst ys => cases h; obtain ⟨a, vs, e, f, t⟩ := r; exact ⟨a, vs, e, f.2, t⟩
  | oid n =>
    obtain ⟨a, ea, ev, hv, t⟩ := s.at (viewL_iff.mp h)
    obtain ⟨b, eb, hb⟩ := r
    rw [ea] at hb; cases hb
    exact ⟨a, ev, eb, hv, t⟩
  | scr _ => cases h
  | non => cases h
  | bl _ => cases h
  | int _ => cases h
  | str _ => cases h
  | sy _ => cases h
  | tup _ => cases h
  | exr => cases h
  | ktup _ => cases h
theorem ss_of (s : SR g W H M) {d : D} {x : V} {xs : List D} (r : Rep g.K W H d x) (h : viewS M d = some xs) : ∃ a vs, x = .ref a ∧ ((SqL g.K H a vs ∧ viewL M d = some xs) ∨ (SqT g.K H a vs ∧ (d = .tup xs ∨ d = .ktup xs))) ∧ Reps g.K W H xs vs := by
  cases d with
  | tup ys => cases h; obtain ⟨a, vs, e, f, t⟩ := r; exact ⟨a, vs, e, .inr ⟨.of f, .inl rfl⟩, t⟩
  | ktup ys => cases h; obtain ⟨a, vs, e, f, t⟩ := r; exact ⟨a, vs, e, .inr ⟨.inr f, .inr rfl⟩, t⟩
  | lst ys => obtain ⟨a, vs, e, f, t⟩ := sq_of s r (show viewL M (.lst ys) = some xs from h); exact ⟨a, vs, e, .inl ⟨f, h⟩, t⟩
  | scr ys => obtain ⟨a, vs, e, f, t⟩ := sq_of s r (show viewL M (.scr ys) = some xs from h); exact ⟨a, vs, e, .inl ⟨f, h⟩, t⟩
  | oid n => obtain ⟨a, vs, e, f, t⟩ := sq_of s r (show viewL M (.oid n) = some xs from h); exact ⟨a, vs, e, .inl ⟨f, h⟩, t⟩
  | non => cases h
  | bl _ => cases h
  | int _ => cases h
  | str _ => cases h
  | sy _ => cases h
  | exr => cases h
/-- a list of the store, to be written -/
theorem ob_of (s : SR g W H M) {n : Nat} {x : V} {o : Ob} (r : Rep g.K W H (.oid n) x) (h : M[n]? = some o) : ∃ a, x = .ref a ∧ W.ad[n]? = some a ∧ ObR g W H a o := by
  obtain ⟨a, ea, ev⟩ := s.at h
  obtain ⟨b, eb, hb⟩ := r
  rw [ea] at hb; cases hb
  exact ⟨a, eb, ea, ev⟩
/-- a new tuple -/
theorem PRes.tup {xs : List D} (h : PRes g W H Q (some (.v (.tup xs) M))) (s : SR g W H M) {p : Addr} {vs : List V} (hp : H p = none) (r : Reps g.K W H xs vs) : Q (.ref p) (upd H p (.tup vs)) := by
  obtain ⟨e, s'⟩ := s.beside (o := .tup vs) hp
  exact h W _ _ e s' ⟨p, vs, rfl, upd_same, r.up e⟩
end

/-! ### operators -/
section
variable {g : Gd}
theorem okMul_ok {i j : Int} (h : okMul i j = true) : PySem.IntMulOk i j := by
  have h := okP_ok h
  have b : ∀ k : Int, k.natAbs < 2 ^ 63 → Builtin.Int.intBits k ≤ 64 := fun k hk => PySem.intBits_le_64 (by omega) (by omega)
  rcases h with h | h | h
  · exact (wide_mul h.1 h.2 (by decide) (by decide) (by decide)).ok
  · exact PySem.IntMulOk.of_right (b j h)
  · exact PySem.IntMulOk.of_left (b i h)
theorem okDiv_ok {i j : Int} (h : okDiv j = true) : CDivW i j := by
  have h := okP_ok h
  have h1 := h.1
  have h2 := h.2
  refine wide_div h1 (b := 250) ?_ (by decide) (by decide)
  have e : ((j.natAbs : Nat) : Int) = j := Int.natAbs_of_nonneg (Int.le_of_lt h1)
  have h3 : ((j.natAbs : Nat) : Int) < ((2 ^ 250 : Nat) : Int) := by
    rw [e, Int.natCast_pow]; exact h2
  exact Int.ofNat_lt.mp h3
def rAdd (K : PySem.W.Frag) : R2 := fun x y H Q => rI0 (fun i j => .int (i + j)) x y H Q ∨ ((∃ i j, x = .str i ∧ y = .str j ∧ i.length + j.length ≤ sizeLine ∧ Q (.str (i ++ j)) H) ∨ (rCat x y H Q ∨ rCatA K x y H Q))
theorem op_addM {X : Cx} : OpR X (binaryOp .Add) (rAdd X.K) := op_add.or (op_add_str.or (op_cat.or op_catA))
theorem ok_add : Ok2 g (rAdd g.K) pAdd := by
  intro W H M d e x y Q s r1 r2 h
  unfold pAdd at h
  split at h
  · rename_i M' i j he
    cases he
    cases r1; cases r2
    exact .inl ⟨i, j, rfl, rfl, h.same s rfl⟩
  · rename_i M' a b he
    cases he
    cases r1; cases r2
    split at h
    · exact .inr (.inl ⟨a, b, rfl, rfl, by rw [sizeLine_line]; assumption, h.same s rfl⟩)
    · exact h.elim
  · rename_i M' xs ys he
    cases he
    obtain ⟨a, vs, rfl, t1, q1⟩ := id r1
    obtain ⟨b, ws, rfl, t2, q2⟩ := id r2
    split at h
    · rename_i hl
      refine .inr (.inr (.inr ⟨a, b, vs, ws, rfl, rfl, .of t1, .of t2, by rw [q1.length, q2.length, sizeLine_line]; exact hl, fun e => ?_, fun _ e => ?_, fun _ _ p hp => h.tup s hp (q1.append q2)⟩))
      · have : xs = [] := List.eq_nil_of_length_eq_zero (by rw [← q1.length, e]; rfl)
        subst this
        exact h.same s r2
      · have : ys = [] := List.eq_nil_of_length_eq_zero (by rw [← q2.length, e]; rfl)
        subst this
        rw [List.append_nil] at h
        exact h.same s r1
    · exact h.elim
  · rename_i M' xs ys he
    cases he
    obtain ⟨a, vs, rfl, t1, q1⟩ := id r1
    obtain ⟨b, ws, rfl, t2, q2⟩ := id r2
    split at h
    · rename_i hl
      obtain ⟨hl, n1, n2⟩ := hl
      exact .inr (.inr (.inr ⟨a, b, vs, ws, rfl, rfl, .of t1, .inr t2, by rw [q1.length, q2.length, sizeLine_line]; exact hl, fun e => absurd (q1.nil_of e) n1, fun _ e => absurd (q2.nil_of e) n2, fun _ _ p hp => h.tup s hp (q1.append q2)⟩))
    · exact h.elim
  · rename_i M' xs ys he
    cases he
    obtain ⟨a, vs, rfl, t1, q1⟩ := id r1
    obtain ⟨b, ws, rfl, t2, q2⟩ := id r2
    split at h
    · rename_i hl
      obtain ⟨hl, n1, n2⟩ := hl
      exact .inr (.inr (.inr ⟨a, b, vs, ws, rfl, rfl, .inr t1, .of t2, by rw [q1.length, q2.length, sizeLine_line]; exact hl, fun e => absurd (q1.nil_of e) n1, fun _ e => absurd (q2.nil_of e) n2, fun _ _ p hp => h.tup s hp (q1.append q2)⟩))
    · exact h.elim
  · rename_i M' a b _ _ _ _ _ he
    cases he
    split at h
    · rename_i xs ys e1 e2
      obtain ⟨a1, vs, rfl, t1, q1⟩ := hp_of s r1 e1
      obtain ⟨b1, ws, rfl, t2, q2⟩ := hp_of s r2 e2
      split at h
      · rename_i hl
        exact .inr (.inr (.inl ⟨a1, b1, vs, ws, rfl, rfl, t1, t2, by rw [q1.length, q2.length, sizeLine_line]; exact hl, fun p hp => h p _ hp (q1.append q2)⟩))
      · exact h.elim
    · exact h.elim
  · exact h.elim
theorem ok_sub : Ok2 g (rI0 fun i j => .int (i - j)) pSub := by
  intro W H M d e x y Q s r1 r2 h
  unfold pSub at h
  split at h
  · rename_i he; cases he; cases r1; cases r2; exact ⟨_, _, rfl, rfl, h.same s rfl⟩
  · exact h.elim
theorem tuple_mul1 (l : Addr) (items : Array Value) (n : Nat) (dd : Option Addr) (sl : Array (Option Value)) (u : Tok) :
    Meets (Builtin.«tuple.__mul__» ⟨[.ref l, .int 1 u], []⟩) (fun _ R s => s.heap.get? l = some { cls := .type "tuple", dict := dd, data := .seq items n, slots := sl } ∧
      R (.ok (.ret (Value.ref l))) { s with toks := s.toks }) :=
  .of_wp fun prog w A R s h => by
    obtain ⟨hp, g, d, tk, os⟩ := s
    obtain ⟨hl, h⟩ := h
    have f1 := AutoSeq1.idx_int
    wp_walk using wpAny_loadPart' hl
    exact ⟨_, rfl, h⟩
theorem tuple_mul0 (l : Addr) (items : Array Value) (n : Nat) (dd : Option Addr) (sl : Array (Option Value)) (x : Int) (u : Tok) (c0 : (decide (x < -(2 ^ 63)) || decide (x ≥ 2 ^ 63)) = false) (c1 : (items.isEmpty || x == 1) = false) (c2 : (decide (x ≤ 0) || items.isEmpty) = true) :
    Meets (Builtin.«tuple.__mul__» ⟨[.ref l, .int x u], []⟩) (fun _ R s => s.heap.get? l = some { cls := .type "tuple", dict := dd, data := .seq items n, slots := sl } ∧
      R (.ok (.ret (Value.ref s.heap.objs.size))) { s with heap := s.heap.push { cls := Value.type "tuple", data := Data.seq #[] }, toks := s.toks }) :=
  .of_wp fun prog w A R s h => by
    obtain ⟨hp, g, d, tk, os⟩ := s
    obtain ⟨hl, h⟩ := h
    have f1 := AutoSeq1.idx_int
    wp_walk using wpAny_loadPart' hl
    repeat (first
      | (refine wpAny_ite_false (decide_eq_false (by rw [c0]; exact Bool.false_ne_true)) ?_; wp_walk using wpAny_loadPart' hl)
      | (refine wpAny_ite_false (decide_eq_false (by rw [c1]; exact Bool.false_ne_true)) ?_; wp_walk using wpAny_loadPart' hl)
      | (refine wpAny_ite_true (decide_eq_true (by rw [c2])) ?_; wp_walk using wpAny_loadPart' hl))
    exact ⟨_, rfl, h⟩
def rRepT1 (K : PySem.W.Frag) : R2 := fun x y H Q => ∃ l xs, x = .ref l ∧ y = .int 1 ∧ SqT K H l xs ∧ Q (.ref l) H
def rRepT0 (K : PySem.W.Frag) : R2 := fun x y H Q => ∃ l k xs, x = .ref l ∧ y = .int k ∧ SqT K H l xs ∧ xs ≠ [] ∧ -1000000 ≤ k ∧ k ≤ 0 ∧ ∀ p, H p = none → Q (.ref p) (upd H p (.tup []))
section
variable {X : Cx}
theorem op_repT1 : OpR X (binaryOp .Mult) (rRepT1 X.K) := by
  intro pins s σ H x y v u Q I rx ry h
  obtain ⟨l, xs, rfl, rfl, hT, q⟩ := h
  cases rx
  obtain ⟨t, rfl⟩ := ry
  obtain ⟨its, r, ⟨⟨cls, dd, data, sl⟩, ho, hc, n, hd⟩, hs⟩ := I.tuple hT
  simp only at hc hd
  subst hc hd
  refine wpAny_binaryOp_repeat_ref (T := "tuple") (U := "int") (by decide) ⟨_, ho, rfl⟩ (fun s' => typeIs_int s' 1 t) noFill_tuple_mul F.fills_int_mul F.slot_int_rmul repeat_tuple F.slot_int_index.lookup
    (call_meets F.slot_int_rmul (typeIs_int s 1 t) F.entry_int_rmul (F.args_int_rmul_2 _ _) (int_rmul_tuple 1 t l its.toArray n dd sl)
      ⟨ho, rfl, ⟨_, ho, rfl⟩, call_meets F.slot_tuple_mul ⟨_, ho, rfl⟩ F.entry_tuple_mul (F.args_tuple_mul_2 _ _) (tuple_mul1 l its.toArray n dd sl t) ⟨ho, ?_⟩⟩)
  exact ⟨.ref l, H, I, rfl, q⟩
theorem op_repT0 : OpR X (binaryOp .Mult) (rRepT0 X.K) := by
  intro pins s σ H x y v u Q I rx ry h
  obtain ⟨l, k, xs, rfl, rfl, hT, hne, h1, h2, q⟩ := h
  cases rx
  obtain ⟨t, rfl⟩ := ry
  obtain ⟨its, r, ⟨⟨cls, dd, data, sl⟩, ho, hc, n, hd⟩, hs⟩ := I.tuple hT
  simp only at hc hd
  subst hc hd
  have hle : its.length = xs.length := r.length.symm
  have hn : its ≠ [] := fun e => hne (by
    rw [e] at hle
    exact List.eq_nil_of_length_eq_zero hle.symm)
  have hi : its.toArray.isEmpty = false := by
    cases its with
    | nil => exact absurd rfl hn
    | cons a b => rfl
  have c0 : (decide (k < -(2 ^ 63)) || decide (k ≥ 2 ^ 63)) = false := by
    rw [decide_eq_false (by omega), decide_eq_false (by omega)] <;> rfl
  have c1 : (its.toArray.isEmpty || k == 1) = false := by
    rw [hi, Bool.false_or]
    exact beq_eq_false_iff_ne.mpr (by omega)
  have c2 : (decide (k ≤ 0) || its.toArray.isEmpty) = true := by
    rw [decide_eq_true h2, Bool.true_or]
  refine wpAny_binaryOp_repeat_ref (T := "tuple") (U := "int") (by decide) ⟨_, ho, rfl⟩ (fun s' => typeIs_int s' k t) noFill_tuple_mul F.fills_int_mul F.slot_int_rmul repeat_tuple F.slot_int_index.lookup
    (call_meets F.slot_int_rmul (typeIs_int s k t) F.entry_int_rmul (F.args_int_rmul_2 _ _) (int_rmul_tuple k t l its.toArray n dd sl)
      ⟨ho, rfl, ⟨_, ho, rfl⟩, call_meets F.slot_tuple_mul ⟨_, ho, rfl⟩ F.entry_tuple_mul (F.args_tuple_mul_2 _ _) (tuple_mul0 l its.toArray n dd sl k t c0 c1 c2) ⟨ho, ?_⟩⟩)
  refine ⟨.ref s.heap.objs.size, _, I.laid (t' := s.toks) (o := .tup []) (fun b ob q => Heap.get?_push_of_some _ q) (Nat.le_refl _) ?_, rfl, q _ (I.hok.fresh (Nat.le_refl _))⟩
  exact ⟨by rw [sizeLine_eq]; exact (by decide : (0 : Nat) ≤ 16777216), _, .nil, IsTup.new _ _⟩
end
/-- a text some times -/
def rRepS : R2 := fun x y H Q => ∃ z k, x = .str z ∧ y = .int k ∧ 0 ≤ k ∧ k ≤ 1000 ∧ z.length ≤ 1000 ∧ Q (.str ⟨(List.replicate k.toNat z.cps.toList).flatten.toArray⟩) H
theorem foldl_repN (its : List Nat) : ∀ (k : Nat) (acc : List Nat), List.foldl (fun x1 x2 => x1 ++ x2) acc.toArray (List.replicate k its.toArray) = (acc ++ (List.replicate k its).flatten).toArray
  | 0, acc => by simp
  | k + 1, acc => by
    have e : acc.toArray ++ its.toArray = (acc ++ its).toArray := by simp
    rw [List.replicate_succ, List.foldl_cons, e, foldl_repN its k (acc ++ its), List.replicate_succ, List.flatten_cons, List.append_assoc]
theorem op_repS {X : Cx} : OpR X (binaryOp .Mult) rRepS := by
  intro pins s σ H x y v u Q I rx ry h
  obtain ⟨z, k, rfl, rfl, h0, h1, hz, q⟩ := h
  obtain ⟨t, rfl⟩ := rx
  obtain ⟨t', rfl⟩ := ry
  have hl : z.length * k.toNat ≤ 1000000 := by
    have h2 : k.toNat ≤ 1000 := by omega
    have := Nat.mul_le_mul hz h2
    omega
  have e3 : List.foldl (fun x1 x2 => x1 ++ x2) #[] (List.replicate k.toNat z.cps) = (List.replicate k.toNat z.cps.toList).flatten.toArray := by
    have := foldl_repN z.cps.toList k.toNat []
    rw [List.nil_append, Array.toArray_toList] at this
    exact this
  have hlen : (⟨(List.replicate k.toNat z.cps.toList).flatten.toArray⟩ : Str).length = k.toNat * z.length := by
    show ((List.replicate k.toNat z.cps.toList).flatten.toArray).size = _
    rw [List.size_toArray, List.length_flatten, List.map_replicate, List.sum_replicate_nat]
    rfl
  refine PySem.P.mul_str (by rw [decide_eq_false (by omega), decide_eq_false (by omega)]; rfl) (fun h2 _ => ?_) (fun _ _ => ?_) ?_
  · have h3 : (2 ^ 63 - 1) / 1000 ≤ ((2 : Int) ^ 63 - 1) / k := by
      have : (2 ^ 63 - 1 : Int) / 1000 * k ≤ (2 ^ 63 - 1 : Int) := by
        have h4 : (2 ^ 63 - 1 : Int) / 1000 * k ≤ (2 ^ 63 - 1 : Int) / 1000 * 1000 := Int.mul_le_mul_of_nonneg_left h1 (by decide)
        exact Int.le_trans h4 (by decide)
      exact (Int.le_ediv_iff_mul_le (by omega)).mpr this
    have h5 : (1000 : Int) < (2 ^ 63 - 1) / 1000 := by decide
    omega
  · unfold Builtin.Str.tooLong
    rw [decide_eq_false]
    rw [sizeLine_eq]
    omega
  · split
    · have : k = 0 := by omega
      subst this
      exact ⟨by rw [sizeLine_eq]; exact (by decide : (0 : Nat) ≤ 16777216), .str _, H, I.tok _, ⟨_, rfl⟩, q⟩
    · split
      · rename_i hc
        have e : (⟨(List.replicate k.toNat z.cps.toList).flatten.toArray⟩ : Str) = z := by
          rw [Bool.or_eq_true, beq_iff_eq, beq_iff_eq] at hc
          rcases hc with hc | hc
          · subst hc; simp
          · have e0 : z.cps = #[] := Array.eq_empty_of_size_eq_zero hc
            obtain ⟨c⟩ := z
            have e0 : c = #[] := e0
            subst e0
            simp
        rw [e] at q
        exact ⟨.str z, H, I.kept (t' := s.toks) (fun _ _ z => z), ⟨_, rfl⟩, q⟩
      · refine ⟨?_, .str _, H, I.tok _, ⟨_, rfl⟩, ?_⟩
        · rw [e3, hlen, sizeLine_eq, Nat.mul_comm]; omega
        · rw [e3]; exact q
def rMul (K : PySem.W.Frag) : R2 := fun x y H Q => rI PySem.IntMulOk (fun i j => .int (i * j)) x y H Q ∨ (rRep x y H Q ∨ (rRepT K x y H Q ∨ (rRepT1 K x y H Q ∨ (rRepT0 K x y H Q ∨ rRepS x y H Q))))
theorem op_mulI {X : Cx} : OpR X (binaryOp .Mult) (rI PySem.IntMulOk fun i j => .int (i * j)) := opI fun _ _ _ _ _ _ _ hc q => mul_int q hc
theorem op_mulM {X : Cx} : OpR X (binaryOp .Mult) (rMul X.K) := op_mulI.or (op_rep.or (op_repT.or (op_repT1.or (op_repT0.or op_repS))))
theorem ok_mul : Ok2 g (rMul g.K) pMul := by
  intro W H M d e x y Q s r1 r2 h
  unfold pMul at h
  split at h
  · rename_i he; cases he; cases r1; cases r2
    split at h
    · exact .inl ⟨_, _, rfl, rfl, okMul_ok (by assumption), h.same s rfl⟩
    · exact h.elim
  · rename_i M' xs k he
    cases he
    obtain ⟨a, vs, rfl, t1, q1⟩ := id r1
    cases r2
    split at h
    · rename_i hl
      obtain ⟨h0, h1, h2, h3⟩ := hl
      have hne : vs ≠ [] := fun e => h0 (List.eq_nil_of_length_eq_zero (by rw [← q1.length, e]; rfl))
      by_cases c1 : k = 1
      · subst c1
        have e1 : (List.replicate (1 : Int).toNat xs).flatten = xs := by simp
        rw [e1] at h
        exact .inr (.inr (.inr (.inl ⟨a, vs, rfl, rfl, .of t1, h.same s r1⟩)))
      · by_cases c0 : k ≤ 0
        · have e0 : k.toNat = 0 := by omega
          rw [e0] at h
          exact .inr (.inr (.inr (.inr (.inl ⟨a, k, vs, rfl, rfl, .of t1, hne, h2, c0, fun p hp => h.tup s hp .nil⟩))))
        · exact .inr (.inr (.inl ⟨a, k, vs, rfl, rfl, .of t1, hne, by omega, h3, by rw [q1.length]; exact h1, fun p hp => h.tup s hp (q1.flat _)⟩))
    · exact h.elim
  · rename_i M' z k he
    cases he
    cases r1
    cases r2
    split at h
    · rename_i hl
      exact .inr (.inr (.inr (.inr (.inr ⟨z, k, rfl, rfl, hl.1, hl.2.1, hl.2.2, h.same s rfl⟩))))
    · exact h.elim
  · rename_i M' a k _ _ _ he
    cases he
    cases r2
    split at h
    · rename_i xs e1
      obtain ⟨a1, vs, rfl, t1, q1⟩ := hp_of s r1 e1
      split at h
      · rename_i hl
        obtain ⟨h0, h1, h2⟩ := okP_ok hl
        exact .inr (.inl ⟨a1, k, vs, rfl, rfl, t1, h0, h1, by rw [q1.length, sizeLine_line]; exact h2, fun p hp => h p _ hp (q1.flat _)⟩)
      · exact h.elim
    · exact h.elim
  · exact h.elim
theorem ok_fdiv : Ok2 g (rI CDivW fun i j => .int (i / j)) pFdiv := by
  intro W H M d e x y Q s r1 r2 h
  unfold pFdiv at h
  split at h
  · rename_i he; cases he; cases r1; cases r2
    split at h
    · exact ⟨_, _, rfl, rfl, okDiv_ok (by assumption), h.same s rfl⟩
    · exact h.elim
  · exact h.elim
theorem ok_mod : Ok2 g (rI (fun _ j => 0 < j) fun i j => .int (i % j)) pMod := by
  intro W H M d e x y Q s r1 r2 h
  unfold pMod at h
  split at h
  · rename_i he; cases he; cases r1; cases r2
    split at h
    · exact ⟨_, _, rfl, rfl, (by assumption), h.same s rfl⟩
    · exact h.elim
  · exact h.elim
theorem ok_pow : Ok2 g (rI CPow fun i j => .int (i ^ j.toNat)) pPow := by
  intro W H M d e x y Q s r1 r2 h
  unfold pPow at h
  split at h
  · rename_i he; cases he; cases r1; cases r2
    split at h
    · exact ⟨_, _, rfl, rfl, okP_ok (by assumption), h.same s rfl⟩
    · exact h.elim
  · exact h.elim
theorem ok_shr : Ok2 g (rI (fun _ j => 0 ≤ j) fun i j => .int (i / 2 ^ j.toNat)) pShr := by
  intro W H M d e x y Q s r1 r2 h
  unfold pShr at h
  split at h
  · rename_i he; cases he; cases r1; cases r2
    split at h
    · exact ⟨_, _, rfl, rfl, (by assumption), h.same s rfl⟩
    · exact h.elim
  · exact h.elim
theorem ok_band : Ok2 g (rI0 fun i j => .int (Builtin.bitAnd i j)) pBand := by
  intro W H M d e x y Q s r1 r2 h
  unfold pBand at h
  split at h
  · rename_i he; cases he; cases r1; cases r2; exact ⟨_, _, rfl, rfl, h.same s rfl⟩
  · exact h.elim
theorem ok_bxor : Ok2 g (rI0 fun i j => .int (Builtin.bitXor i j)) pBxor := by
  intro W H M d e x y Q s r1 r2 h
  unfold pBxor at h
  split at h
  · rename_i he; cases he; cases r1; cases r2; exact ⟨_, _, rfl, rfl, h.same s rfl⟩
  · exact h.elim
theorem ok_neg : Ok1 g (rU fun i => .int (-i)) pNeg := by
  intro W H M d x Q s r1 h
  unfold pNeg at h
  split at h
  · rename_i he; cases he; cases r1; exact ⟨_, rfl, h.same s rfl⟩
  · exact h.elim
theorem asI_ints : ∀ {xs : List D} {ns : List Int}, mapO asI xs = some ns → xs = ns.map D.int
  | [], ns, h => by cases h; rfl
  | d :: xs, ns, h => by
    unfold mapO at h
    cases d with
    | int i =>
      cases q : mapO asI xs with
      | none => rw [q] at h; cases h
      | some ms =>
        rw [q] at h
        cases h
        rw [List.map_cons, asI_ints q]
    | _ => cases h
theorem ints_vals {K : PySem.W.Frag} {W : Wd} {H : Hp} : ∀ {ns : List Int} {vs : List V}, Reps K W H (ns.map D.int) vs → vs = ns.map V.int
  | [], _, h => h
  | n :: ns, _, ⟨v, r, e, h1, h2⟩ => by
    have h1 : v = .int n := h1
    rw [e, h1, ints_vals h2]; rfl
def rLtM (K : PySem.W.Frag) : R2 := fun x y H Q => rI0 (fun i j => .bl (decide (i < j))) x y H Q ∨ rLtT K x y H Q
/-! #### lists of ints, < -/
theorem firstLt_map (e r : Nat → Bool) (fin : Bool) : ∀ l : List Nat, SeqAt.firstLt e r fin (l.map (· + 1)) = SeqAt.firstLt (fun j => e (j + 1)) (fun j => r (j + 1)) fin l
  | [] => rfl
  | j :: l => by
    show (if e (j + 1) = true then SeqAt.firstLt e r fin (l.map (· + 1)) else r (j + 1)) = (if e (j + 1) = true then _ else _)
    rw [firstLt_map e r fin l]
theorem firstLt_lex : ∀ (ns ms : List Int), SeqAt.firstLt (fun j => decide (ns.getD j 0 = ms.getD j 0)) (fun j => decide (ns.getD j 0 < ms.getD j 0)) (decide (ns.length < ms.length)) (List.range (min ns.length ms.length)) = HT.lexLt ns ms
  | [], [] => by rw [HT.lexLt_nil_nil]; rfl
  | [], m :: ms => by rw [HT.lexLt_nil_cons]; simp [SeqAt.firstLt]
  | n :: ns, [] => by rw [HT.lexLt_cons_nil]; simp [SeqAt.firstLt]
  | n :: ns, m :: ms => by
    have ih := firstLt_lex ns ms
    have e : min (n :: ns).length (m :: ms).length = min ns.length ms.length + 1 := by simp only [List.length_cons]; omega
    rw [e, List.range_succ_eq_map]
    show (if decide (n = m) = true then SeqAt.firstLt _ _ _ ((List.range (min ns.length ms.length)).map Nat.succ) else decide (n < m)) = _
    rw [show (Nat.succ : Nat → Nat) = (· + 1) from rfl, firstLt_map, HT.lexLt_cons]
    have e2 : decide ((n :: ns).length < (m :: ms).length) = decide (ns.length < ms.length) := decide_eq_decide.mpr (by simp)
    rw [e2]
    by_cases h : n = m
    · rw [if_pos (decide_eq_true h), if_pos h]
      exact ih
    · rw [if_neg (by simpa using h), if_neg h]
def rLtL (K : PySem.W.Frag) : R2 := fun x y H Q => ∃ a b ns ms, x = .ref a ∧ y = .ref b ∧ SqL K H a (ns.map V.int) ∧ SqL K H b (ms.map V.int) ∧ Q (.bl (HT.lexLt ns ms)) H
theorem op_ltL {X : Cx} (hu : X.A.units + 1 < cLine) : OpR X (compareOp .Lt) (rLtL X.K) := by
  intro pins s σ H x y v u Q I rx ry h
  obtain ⟨a, b, ns, ms, rfl, rfl, ha, hb, q⟩ := h
  cases rx
  cases ry
  obtain ⟨its, r1, p1, _⟩ := I.list ha
  obtain ⟨its2, r2, p2, _⟩ := I.list hb
  have l1 : its.toArray.size = ns.length := by rw [List.size_toArray, ← r1.length, List.length_map]
  have l2 : its2.toArray.size = ms.length := by rw [List.size_toArray, ← r2.length, List.length_map]
  have at1 : ∀ j (h : j < its.toArray.size), ∃ t, its.toArray[j] = .int (ns.getD j 0) t := fun j h => by
    have hj : j < ns.length := by omega
    obtain ⟨u, hu, ru⟩ := r1.get (i := j) (x := .int ns[j]) (by rw [List.getElem?_map, List.getElem?_eq_getElem hj]; rfl)
    obtain ⟨t, rfl⟩ := ru
    refine ⟨t, ?_⟩
    have e : its.toArray[j]? = some its.toArray[j] := Array.getElem?_eq_getElem h
    rw [List.getElem?_toArray, hu] at e
    rw [← Option.some.inj e, List.getD_eq_getElem?_getD, List.getElem?_eq_getElem hj]; rfl
  have at2 : ∀ j (h : j < its2.toArray.size), ∃ t, its2.toArray[j] = .int (ms.getD j 0) t := fun j h => by
    have hj : j < ms.length := by omega
    obtain ⟨u, hu, ru⟩ := r2.get (i := j) (x := .int ms[j]) (by rw [List.getElem?_map, List.getElem?_eq_getElem hj]; rfl)
    obtain ⟨t, rfl⟩ := ru
    refine ⟨t, ?_⟩
    have e : its2.toArray[j]? = some its2.toArray[j] := Array.getElem?_eq_getElem h
    rw [List.getElem?_toArray, hu] at e
    rw [← Option.some.inj e, List.getD_eq_getElem?_getD, List.getElem?_eq_getElem hj]; rfl
  have key := SeqAt.RcLt.lists (A := X.A) (s := s) (e := fun j => decide (ns.getD j 0 = ms.getD j 0)) (r := fun j => decide (ns.getD j 0 < ms.getD j 0)) p1.isList p2.isList (by omega)
    (fun j h1 h2 => by
      obtain ⟨t, e1⟩ := at1 j h1
      obtain ⟨t2, e2⟩ := at2 j h2
      rw [e1, e2]
      obtain ⟨e, he, hiff⟩ := HT.eqAt_int X.A.in1 s (ns.getD j 0) t (ms.getD j 0) t2
      have : e = decide (ns.getD j 0 = ms.getD j 0) := by
        cases e with
        | true => exact (decide_eq_true (hiff.mp rfl)).symm
        | false => exact (decide_eq_false fun z => Bool.false_ne_true (hiff.mpr z)).symm
      rw [← this]
      exact he)
    (fun j h1 h2 _ => by
      obtain ⟨t, e1⟩ := at1 j h1
      obtain ⟨t2, e2⟩ := at2 j h2
      rw [e1, e2]
      exact fun prog w E Q h => HT.rcLt_int X.A.in1 s (ns.getD j 0) t (ms.getD j 0) t2 prog w E Q h)
  rw [l1, l2, firstLt_lex] at key
  exact key X.prog X.w _ _ ⟨.bl (HT.lexLt ns ms), H, I, rfl, q⟩
def rLtM2 (K : PySem.W.Frag) : R2 := fun x y H Q => rLtM K x y H Q ∨ rLtL K x y H Q
theorem op_ltM {X : Cx} (hu : X.A.units + 1 < cLine) : OpR X (compareOp .Lt) (rLtM2 X.K) := (op_lt.or (op_ltT (by omega))).or (op_ltL hu)
theorem ok_lt : Ok2 g (rLtM2 g.K) pLt := by
  intro W H M d e x y Q s r1 r2 h
  unfold pLt at h
  split at h
  · rename_i he; cases he; cases r1; cases r2; exact .inl (.inl ⟨_, _, rfl, rfl, h.same s rfl⟩)
  · rename_i xs ys M' he
    cases he
    split at h
    · rename_i ns ms e1 e2
      obtain rfl := asI_ints e1
      obtain rfl := asI_ints e2
      obtain ⟨a, vs, rfl, t1, q1⟩ := id r1
      obtain ⟨b, ws, rfl, t2, q2⟩ := id r2
      have e3 := ints_vals q1
      have e4 := ints_vals q2
      subst e3
      subst e4
      exact .inl (.inr ⟨a, b, ns, ms, rfl, rfl, .of t1, .of t2, h.same s rfl⟩)
    · exact h.elim
  · rename_i a1 b1 M' _ _ he
    cases he
    split at h
    · rename_i xs ys e1 e2
      split at h
      · rename_i ns ms e3 e4
        obtain rfl := asI_ints e3
        obtain rfl := asI_ints e4
        obtain ⟨a, vs, rfl, t1, q1⟩ := sq_of s r1 e1
        obtain ⟨b, ws, rfl, t2, q2⟩ := sq_of s r2 e2
        have e5 := ints_vals q1
        have e6 := ints_vals q2
        subst e5
        subst e6
        exact .inr ⟨a, b, ns, ms, rfl, rfl, t1, t2, h.same s rfl⟩
      · exact h.elim
    · exact h.elim
  · exact h.elim
theorem ok_le : Ok2 g (rI0 fun i j => .bl (decide (i ≤ j))) pLe := by
  intro W H M d e x y Q s r1 r2 h
  unfold pLe at h
  split at h
  · rename_i he; cases he; cases r1; cases r2; exact ⟨_, _, rfl, rfl, h.same s rfl⟩
  · exact h.elim
theorem ok_gt : Ok2 g (rI0 fun i j => .bl (decide (j < i))) pGt := by
  intro W H M d e x y Q s r1 r2 h
  unfold pGt at h
  split at h
  · rename_i he; cases he; cases r1; cases r2; exact ⟨_, _, rfl, rfl, h.same s rfl⟩
  · exact h.elim
theorem ok_ge : Ok2 g (rI0 fun i j => .bl (decide (j ≤ i))) pGe := by
  intro W H M d e x y Q s r1 r2 h
  unfold pGe at h
  split at h
  · rename_i he; cases he; cases r1; cases r2; exact ⟨_, _, rfl, rfl, h.same s rfl⟩
  · exact h.elim

/-! ### == -/
theorem canLay_all : ∀ {ds : List PyData}, (∀ d ∈ ds, PyData.canLay0 d = true) → PyData.canLayAll0 ds = true
  | [], _ => rfl
  | d :: ds, h => by
    show (PyData.canLay0 d && PyData.canLayAll0 ds) = true
    rw [h d List.mem_cons_self, canLay_all fun e he => h e (List.mem_cons_of_mem _ he)]; rfl
theorem depth_all {n : Nat} : ∀ {ds : List PyData}, (∀ d ∈ ds, PyData.depth d ≤ n) → PyData.depthAll ds ≤ n
  | [], _ => Nat.zero_le _
  | d :: ds, h => by
    show max (PyData.depth d) (PyData.depthAll ds) ≤ n
    exact Nat.max_le.mpr ⟨h d List.mem_cons_self, depth_all fun e he => h e (List.mem_cons_of_mem _ he)⟩
theorem mapO_mem {α β : Type} {f : α → Option β} {P : β → Prop} : ∀ {xs : List α} {ys : List β}, mapO f xs = some ys → (∀ x y, x ∈ xs → f x = some y → P y) → ∀ y ∈ ys, P y
  | [], ys, h, _ => by cases h; intro y hy; cases hy
  | x :: xs, ys, h, hp => by
    unfold mapO at h
    split at h
    · rename_i y ys' e1 e2
      cases h
      intro z hz
      rcases List.mem_cons.mp hz with e | hz
      · subst e; exact hp x _ List.mem_cons_self e1
      · exact mapO_mem e2 (fun a b ha => hp a b (List.mem_cons_of_mem _ ha)) z hz
    · cases h
theorem toPd_shape {M : Store} : ∀ (n : Nat) {d : D} {p : PyData}, toPd M n d = some p → PyData.canLay0 p = true ∧ PyData.depth p ≤ n := by
  intro n
  induction n with
  | zero => intro d p h; simp [toPd] at h
  | succ n ih =>
    intro d p h
    have seq : ∀ {xs : List D} {ys : List PyData}, mapO (toPd M n) xs = some ys → PyData.canLayAll0 ys = true ∧ PyData.depthAll ys ≤ n := fun e =>
      ⟨canLay_all (mapO_mem e fun x y _ q => (ih q).1), depth_all (mapO_mem e fun x y _ q => (ih q).2)⟩
    have lst : ∀ {xs : List D}, (mapO (toPd M n) xs).map PyData.list = some p → PyData.canLay0 p = true ∧ PyData.depth p ≤ n + 1 := fun {xs} e => by
      cases q : mapO (toPd M n) xs with
      | none => rw [q] at e; cases e
      | some ys => rw [q] at e; cases e; exact ⟨(seq q).1, Nat.succ_le_succ (seq q).2⟩
    cases d with
    | non => cases h; exact ⟨rfl, Nat.zero_le _⟩
    | bl b => cases h; exact ⟨rfl, Nat.zero_le _⟩
    | int i => cases h; exact ⟨rfl, Nat.zero_le _⟩
    | str x =>
      unfold toPd at h
      split at h
      · cases h; exact ⟨by assumption, Nat.zero_le _⟩
      · cases h
    | sy k => cases h; exact ⟨nm_ok k, Nat.zero_le _⟩
    | tup xs =>
      have h' : (mapO (toPd M n) xs).map PyData.tuple = some p := h
      cases q : mapO (toPd M n) xs with
      | none => rw [q] at h'; cases h'
      | some ys => rw [q] at h'; cases h'; exact ⟨(seq q).1, Nat.succ_le_succ (seq q).2⟩
    | ktup xs =>
      have h' : (mapO (toPd M n) xs).map PyData.tuple = some p := h
      cases q : mapO (toPd M n) xs with
      | none => rw [q] at h'; cases h'
      | some ys => rw [q] at h'; cases h'; exact ⟨(seq q).1, Nat.succ_le_succ (seq q).2⟩
    | lst xs => exact lst h
    | scr xs => exact lst h
    | oid k =>
      unfold toPd at h
      split at h
      · exact lst h
      · cases h
    | exr => cases h
theorem shaped_of {M : Store} {d : D} {p : PyData} (h : toPd M pdDepth d = some p) : SeqAt.shaped p = true := by
  obtain ⟨h1, h2⟩ := toPd_shape _ h
  unfold SeqAt.shaped
  rw [h1, decide_eq_true (Nat.le_trans h2 (by decide))]; rfl
theorem dp_all {K : PySem.W.Frag} {W : Wd} {H : Hp} {f : D → Option PyData} : ∀ {xs : List D} {vs : List V} {ys : List PyData}, (∀ d v p, Rep K W H d v → f d = some p → Dp K H v p) → Reps K W H xs vs → mapO f xs = some ys → DpAll K H vs ys
  | [], _, _, _, r, e => by rw [show _ = [] from r]; cases e; exact .nil
  | d :: xs, _, ys, hd, ⟨v, r, e1, h1, h2⟩, e => by
    subst e1
    unfold mapO at e
    split at e
    · rename_i y ys' q1 q2
      cases e
      exact .cons (hd d v y h1 q1) (dp_all hd h2 q2)
    · cases e
theorem dp_of {W : Wd} {H : Hp} {M : Store} (s : SR g W H M) : ∀ (n : Nat) (d : D) (v : V) (p : PyData), Rep g.K W H d v → toPd M n d = some p → Dp g.K H v p := by
  intro n
  induction n with
  | zero => intro d v p _ h; simp [toPd] at h
  | succ n ih =>
    intro d v p r h
    cases d with
    | non => cases h; cases r; exact .non
    | bl b => cases h; cases r; exact .bl b
    | int i => cases h; cases r; exact .int i
    | str x =>
      unfold toPd at h
      split at h
      · cases h; cases r; exact .str x
      · cases h
    | sy k => cases h; cases r; exact .str (nm k)
    | tup xs =>
      have h' : (mapO (toPd M n) xs).map PyData.tuple = some p := h
      obtain ⟨a, vs, rfl, t, q⟩ := r
      cases e : mapO (toPd M n) xs with
      | none => rw [e] at h'; cases h'
      | some ys => rw [e] at h'; cases h'; exact .tup (.of t) (dp_all ih q e)
    | ktup xs =>
      have h' : (mapO (toPd M n) xs).map PyData.tuple = some p := h
      obtain ⟨a, vs, rfl, t, q⟩ := r
      cases e : mapO (toPd M n) xs with
      | none => rw [e] at h'; cases h'
      | some ys => rw [e] at h'; cases h'; exact .tup (.inr t) (dp_all ih q e)
    | lst xs =>
      have h' : (mapO (toPd M n) xs).map PyData.list = some p := h
      obtain ⟨a, vs, rfl, t, q⟩ := r
      cases e : mapO (toPd M n) xs with
      | none => rw [e] at h'; cases h'
      | some ys => rw [e] at h'; cases h'; exact .lst t.sq (dp_all ih q e)
    | scr xs =>
      have h' : (mapO (toPd M n) xs).map PyData.list = some p := h
      obtain ⟨a, vs, rfl, t, q⟩ := r
      cases e : mapO (toPd M n) xs with
      | none => rw [e] at h'; cases h'
      | some ys => rw [e] at h'; cases h'; exact .lst t.sq (dp_all ih q e)
    | oid k =>
      unfold toPd at h
      split at h
      · rename_i xs hk
        obtain ⟨a, rfl, ea, vs, hv, q⟩ := ob_of s r hk
        cases e : mapO (toPd M n) xs with
        | none => rw [e] at h; cases h
        | some ys => rw [e] at h; cases h; exact .lst (.of hv) (dp_all ih q e)
      · cases h
    | exr => cases h
theorem eqD_ok {W : Wd} {H : Hp} {M : Store} (s : SR g W H M) {d e : D} {x y : V} {k : Bool} (r1 : Rep g.K W H d x) (r2 : Rep g.K W H e y) (h : eqD M d e = some k) :
    ∃ p q, Dp g.K H x p ∧ Dp g.K H y q ∧ SeqAt.shaped p = true ∧ SeqAt.shaped q = true ∧ k = PyData.eqv p q := by
  unfold eqD at h
  split at h
  · rename_i p q e1 e2
    cases h
    exact ⟨p, q, dp_of s _ _ _ _ r1 e1, dp_of s _ _ _ _ r2 e2, shaped_of e1, shaped_of e2, rfl⟩
  · cases h
theorem ok_eq : Ok2 g (rEqD g.K) pEq := by
  intro W H M d e x y Q s r1 r2 h
  unfold pEq at h
  dsimp only at h
  cases q : eqD M d e with
  | none => rw [q] at h; exact h.elim
  | some k =>
    rw [q] at h
    obtain ⟨p, p', h1, h2, h3, h4, rfl⟩ := eqD_ok s r1 r2 q
    exact ⟨p, p', h1, h2, h3, h4, h.same s rfl⟩
/-- == of two lists: their data, or their lengths -/
def rEqz (K : PySem.W.Frag) : R2 := fun x y H Q => rEqD K x y H Q ∨ ∃ a b xs ys, x = .ref a ∧ y = .ref b ∧ SqL K H a xs ∧ SqL K H b ys ∧ xs.length ≠ ys.length ∧ Q (.bl false) H
theorem op_eqz {X : Cx} (hu : X.A.units + 64 < cLine) : OpR X (compareOp .Eq) (rEqz X.K) := by
  intro pins s σ H x y v u Q I rx ry h
  rcases h with h | ⟨a, b, xs, ys, rfl, rfl, ha, hb, hne, q⟩
  · exact op_eqD hu pins s σ H x y v u Q I rx ry h
  · cases rx
    cases ry
    obtain ⟨its, r1, ⟨o, n, e1, e2, _, e3⟩, _⟩ := I.list ha
    obtain ⟨its2, r2, ⟨o2, n2, f1, f2, _, f3⟩, _⟩ := I.list hb
    refine SeqAt.eq_list_lengthsAt ⟨o, e1, e2, n, e3⟩ ⟨o2, f1, f2, n2, f3⟩ ?_ (by omega) ⟨.bl _, H, I, rfl, q⟩
    have h1 := r1.length
    have h2 := r2.length
    simp only [List.size_toArray, bne_iff_ne, ne_eq]
    omega
theorem ok_eqz : Ok2 g (rEqz g.K) pEqz := by
  intro W H M d e x y Q s r1 r2 h
  unfold pEqz at h
  dsimp only at h
  cases q1 : viewL M d with
  | none => rw [q1] at h; exact h.elim
  | some xs =>
    cases q2 : viewL M e with
    | none => rw [q1, q2] at h; exact h.elim
    | some ys =>
      rw [q1, q2] at h
      dsimp only at h
      by_cases c : xs.length = ys.length
      · rw [if_pos c] at h
        exact .inl (ok_eq W H M d e x y Q s r1 r2 h)
      · rw [if_neg c] at h
        obtain ⟨a, vs, rfl, t1, p1⟩ := sq_of s r1 q1
        obtain ⟨b, ws, rfl, t2, p2⟩ := sq_of s r2 q2
        have l1 := p1.length
        have l2 := p2.length
        exact .inr ⟨a, b, vs, ws, rfl, rfl, t1, t2, by omega, h.same s rfl⟩
theorem ok_ne : Ok2 g (rNeD g.K) pNe := by
  intro W H M d e x y Q s r1 r2 h
  unfold pNe at h
  dsimp only at h
  cases q : eqD M d e with
  | none => rw [q] at h; exact h.elim
  | some k =>
    rw [q] at h
    obtain ⟨p, p', h1, h2, h3, h4, rfl⟩ := eqD_ok s r1 r2 q
    exact ⟨p, p', h1, h2, h3, h4, h.same s rfl⟩
theorem isNon_ok {W : Wd} {H : Hp} {d : D} {x : V} (r : Rep g.K W H d x) : decide (x = .non) = isNon d := by
  cases d with
  | non => cases r; rfl
  | bl _ => cases r; rfl
  | int _ => cases r; rfl
  | str _ => cases r; rfl
  | sy _ => cases r; rfl
  | tup _ => obtain ⟨a, _, rfl, _⟩ := r; rfl
  | ktup _ => obtain ⟨a, _, rfl, _⟩ := r; rfl
  | lst _ => obtain ⟨a, _, rfl, _⟩ := r; rfl
  | scr _ => obtain ⟨a, _, rfl, _⟩ := r; rfl
  | oid _ => obtain ⟨a, rfl, _⟩ := r; rfl
  | exr => exact r.elim
def rIs : R2 := fun x y H Q => (y = .non ∧ Q (.bl (decide (x = .non))) H) ∨ rIsB x y H Q
def rIsNot : R2 := fun x y H Q => (y = .non ∧ Q (.bl (!decide (x = .non))) H) ∨ rNotB x y H Q
theorem op_isM {X : Cx} : OpR X (compareOp .Is) rIs := op_isN.or op_isBl
theorem op_isNotM {X : Cx} : OpR X (compareOp .IsNot) rIsNot := op_notN.or op_notBl
theorem ok_is : Ok2 g rIs pIs := by
  intro W H M d e x y Q s r1 r2 h
  unfold pIs at h
  split at h
  · rename_i he; cases he; cases r2
    exact .inl ⟨rfl, by rw [isNon_ok r1]; exact h.same s rfl⟩
  · rename_i he; cases he; cases r1; cases r2
    exact .inr ⟨_, _, rfl, rfl, h.same s rfl⟩
  · exact h.elim
theorem ok_isNot : Ok2 g rIsNot pIsNot := by
  intro W H M d e x y Q s r1 r2 h
  unfold pIsNot at h
  split at h
  · rename_i he; cases he; cases r2
    exact .inl ⟨rfl, by rw [isNon_ok r1]; exact h.same s rfl⟩
  · rename_i he; cases he; cases r1; cases r2
    exact .inr ⟨_, _, rfl, rfl, h.same s rfl⟩
  · exact h.elim
end
end Mo
/-! Mo3: operations by values, further. -/
namespace Mo
open PySem PySem.Spec PyProof.Rows L2

section
variable {g : Gd}
/-! ### in -/
theorem flat_V {W : Wd} {H : Hp} {d : D} {x : V} (r : Rep g.K W H d x) (h : flatD d = true) : x = toV d ∧ flatV x = true := by
  cases d with
  | non => cases r; exact ⟨rfl, rfl⟩
  | bl _ => cases r; exact ⟨rfl, rfl⟩
  | int _ => cases r; exact ⟨rfl, rfl⟩
  | str _ => cases r; exact ⟨rfl, rfl⟩
  | sy _ => cases r; exact ⟨rfl, rfl⟩
  | tup _ => cases h
  | ktup _ => cases h
  | lst _ => cases h
  | scr _ => cases h
  | oid _ => cases h
  | exr => cases h
theorem flat_Vs {W : Wd} {H : Hp} : ∀ {ds : List D} {vs : List V}, Reps g.K W H ds vs → ds.all flatD = true → vs = ds.map toV ∧ vs.all flatV = true
  | [], _, r, _ => by rw [show _ = [] from r]; exact ⟨rfl, rfl⟩
  | d :: ds, _, ⟨v, r, e, h1, h2⟩, h => by
    subst e
    rw [List.all_cons, Bool.and_eq_true] at h
    obtain ⟨a, b⟩ := flat_V h1 h.1
    obtain ⟨a', b'⟩ := flat_Vs h2 h.2
    subst a
    refine ⟨?_, ?_⟩
    · rw [List.map_cons, ← a']
    · rw [List.all_cons, b, b']; rfl
def rInM (K : PySem.W.Frag) : R2 := fun x y H Q => rIn K false x y H Q ∨ ((∃ (c : Nat) (z : Str), x = .str ⟨#[c]⟩ ∧ y = .str z ∧ Q (.bl (decide (c ∈ z.cps.toList))) H) ∨ rInD K x y H Q)
def rNotInM (K : PySem.W.Frag) : R2 := fun x y H Q => rIn K true x y H Q ∨ ((∃ (c : Nat) (z : Str), x = .str ⟨#[c]⟩ ∧ y = .str z ∧ Q (.bl (!decide (c ∈ z.cps.toList))) H) ∨ rNotInD K x y H Q)
theorem op_inM {X : Cx} (hu : X.A.units + 65 < cLine) : OpR X (compareOp .In) (rInM X.K) := op_in_seq.or (op_in_sign.or (op_inD hu))
theorem op_notInM {X : Cx} (hu : X.A.units + 65 < cLine) : OpR X (compareOp .NotIn) (rNotInM X.K) := op_notIn_seq.or (op_notIn_sign.or (op_notInD hu))
/-- what in asks, whatever is made of its answer -/
theorem inD_ok {W : Wd} {H : Hp} {M : Store} (s : SR g W H M) {d e : D} {x y : V} {k : Bool} (r1 : Rep g.K W H d x) (r2 : Rep g.K W H e y) (h : inD M d e = some k) :
    (∃ p xs, y = .ref p ∧ (SqL g.K H p xs ∨ SqT g.K H p xs) ∧ flatV x = true ∧ xs.all flatV = true ∧ L2.inV x xs = k) ∨
      (∃ (c : Nat) (z : Str), x = .str ⟨#[c]⟩ ∧ y = .str z ∧ decide (c ∈ z.cps.toList) = k) ∨
      (∃ p ps, Dp g.K H x p ∧ Dp g.K H y (.list ps) ∧ SeqAt.shaped p = true ∧ SeqAt.shaped (.list ps) = true ∧ (ps.any fun z => PyData.eqv z p) = k) := by
  have lists : ∀ {e' : D}, Rep g.K W H e' y → inList (toPd M pdDepth e') (toPd M pdDepth d) = some k →
      ∃ p ps, Dp g.K H x p ∧ Dp g.K H y (.list ps) ∧ SeqAt.shaped p = true ∧ SeqAt.shaped (.list ps) = true ∧ (ps.any fun z => PyData.eqv z p) = k := fun {e'} r q => by
    unfold inList at q
    split at q
    · rename_i ps p e1 e2
      cases q
      exact ⟨p, ps, dp_of s _ _ _ _ r1 e2, dp_of s _ _ _ _ r e1, shaped_of e2, shaped_of e1, rfl⟩
    · cases q
  have tups : ∀ {ys : List D} {a : Addr} {vs : List V}, SqT g.K H a vs → y = .ref a → Reps g.K W H ys vs → (if (flatD d && ys.all flatD) = true then some (L2.inV (toV d) (ys.map toV)) else none) = some k →
      ∃ p xs, y = .ref p ∧ (SqL g.K H p xs ∨ SqT g.K H p xs) ∧ flatV x = true ∧ xs.all flatV = true ∧ L2.inV x xs = k := fun {ys a vs} t ea q z => by
    split at z
    · rename_i hf
      cases z
      rw [Bool.and_eq_true] at hf
      obtain ⟨b1, b2⟩ := flat_V r1 hf.1
      obtain ⟨c1, c2⟩ := flat_Vs q hf.2
      exact ⟨a, vs, ea, .inr t, b2, c2, by rw [b1, c1]⟩
    · cases z
  unfold inD at h
  split at h
  · obtain ⟨a, vs, ea, t, q⟩ := r2
    exact .inl (tups (.of t) ea q h)
  · obtain ⟨a, vs, ea, t, q⟩ := r2
    exact .inl (tups (.inr t) ea q h)
  · cases r2
    split at h
    · cases r1
      split at h
      · rename_i c' l' k' hk
        cases h
        refine .inr (.inl ⟨k', _, ?_, rfl, rfl⟩)
        have : c'.cps = #[k'] := by rw [← Array.toArray_toList (xs := c'.cps), hk]
        show V.str c' = _
        cases c'; cases this; rfl
      · cases h
    · cases h
  · exact .inr (.inr (lists r2 h))
  · exact .inr (.inr (lists r2 h))
  · cases h
theorem ok_in : Ok2 g (rInM g.K) pIn := by
  intro W H M d e x y Q s r1 r2 h
  unfold pIn at h
  dsimp only at h
  cases q : inD M d e with
  | none => rw [q] at h; exact h.elim
  | some k =>
    rw [q] at h
    have hq : Q (.bl k) H := h.same s rfl
    rcases inD_ok s r1 r2 q with ⟨p, xs, e1, e2, e3, e4, rfl⟩ | ⟨c, z, e1, e2, rfl⟩ | ⟨p, ps, e1, e2, e3, e4, rfl⟩
    · exact .inl ⟨p, xs, e1, e2, e3, e4, hq⟩
    · exact .inr (.inl ⟨c, z, e1, e2, hq⟩)
    · exact .inr (.inr ⟨p, ps, e1, e2, e3, e4, hq⟩)
theorem ok_notIn : Ok2 g (rNotInM g.K) pNotIn := by
  intro W H M d e x y Q s r1 r2 h
  unfold pNotIn at h
  dsimp only at h
  cases q : inD M d e with
  | none => rw [q] at h; exact h.elim
  | some k =>
    rw [q] at h
    have hq : Q (.bl (!k)) H := h.same s rfl
    rcases inD_ok s r1 r2 q with ⟨p, xs, e1, e2, e3, e4, rfl⟩ | ⟨c, z, e1, e2, rfl⟩ | ⟨p, ps, e1, e2, e3, e4, rfl⟩
    · exact .inl ⟨p, xs, e1, e2, e3, e4, hq⟩
    · exact .inr (.inl ⟨c, z, e1, e2, hq⟩)
    · exact .inr (.inr ⟨p, ps, e1, e2, e3, e4, hq⟩)

/-! ### items, slices -/
theorem atI_rep {W : Wd} {H : Hp} {ds : List D} {vs : List V} {i : Int} {d : D} (r : Reps g.K W H ds vs) (h : atI ds i = some d) : ∃ v, atI vs i = some v ∧ Rep g.K W H d v := by
  unfold atI at h ⊢
  rw [r.length]
  cases e : ixN ds.length i with
  | none => rw [e] at h; cases h
  | some j =>
    rw [e] at h
    obtain ⟨v, h1, h2⟩ := r.get (i := j) h
    exact ⟨v, h1, h2⟩
theorem ok_ix : Ok2 g (rIx g.K) pIx := by
  intro W H M d e x y Q s r1 r2 h
  unfold pIx at h
  split at h
  · rename_i M' z i he
    cases he
    cases r1; cases r2
    split at h
    · rename_i hl
      split at h
      · rename_i c hc
        exact .inr (.inr ⟨z, i, c, rfl, rfl, by rw [sizeLine_line]; exact hl, hc, h.same s rfl⟩)
      · exact h.elim
    · exact h.elim
  · rename_i M' a i _ he
    cases he
    cases r2
    split at h
    · rename_i xs hx
      obtain ⟨b, vs, rfl, t, q⟩ := ss_of s r1 hx
      unfold ixL at h
      split at h
      · rename_i d' hd
        obtain ⟨v, hv, rv⟩ := atI_rep q hd
        rcases t with ⟨t, _⟩ | ⟨t, _⟩
        · exact .inl ⟨b, vs, i, v, rfl, rfl, t, hv, h.same s rv⟩
        · exact .inr (.inl ⟨b, vs, i, v, rfl, rfl, t, hv, h.same s rv⟩)
      · exact h.elim
    · exact h.elim
  · exact h.elim
theorem cut_rep {W : Wd} {H : Hp} {ds : List D} {vs : List V} (r : Reps g.K W H ds vs) (lo hi : Option Int) : Reps g.K W H (cut ds lo hi) (cutV vs lo hi) := by
  unfold cut cutV
  rw [r.length]
  exact (r.drop _).take _
def rSlM (K : PySem.W.Frag) : V → Option Int → Option Int → Hp → VK → Prop := fun x lo hi H Q => rSlL K x lo hi H Q ∨ (rSlA K x lo hi H Q ∨ rSlS x lo hi H Q)
theorem sl_M {X : Cx} : SlR X (rSlM X.K) := sl_list.or (sl_tupA.or sl_str)
theorem cut_whole {α : Type} {xs : List α} {lo hi : Option Int} (h : HT.sIx xs.length 0 lo = 0 ∧ HT.sIx xs.length xs.length hi = xs.length) : cut xs lo hi = xs := by
  unfold cut
  rw [h.1, h.2]
  simp
theorem ok_slice {W : Wd} {H : Hp} {M : Store} {d : D} {x : V} {lo hi : Option Int} {Q : VK} (s : SR g W H M) (r : Rep g.K W H d x) (h : PRes g W H Q (slice M d lo hi)) : rSlM g.K x lo hi H Q := by
  have lists : ∀ {d' : D}, Rep g.K W H d' x → PRes g W H Q ((viewL M d').map fun xs => .nl (cut xs lo hi)) → rSlM g.K x lo hi H Q := fun {d'} r q => by
    cases e : viewL M d' with
    | none => rw [e] at q; exact q.elim
    | some xs =>
      rw [e] at q
      obtain ⟨a, vs, rfl, t, q'⟩ := sq_of s r e
      exact .inl ⟨a, vs, rfl, t, fun p hp => q p _ hp (cut_rep q' lo hi)⟩
  unfold slice at h
  split at h
  · rename_i xs
    obtain ⟨a, vs, rfl, t, q⟩ := id r
    refine .inr (.inl ⟨a, vs, rfl, .of t, fun z => ?_, fun z p hp => h.tup s hp (cut_rep q lo hi)⟩)
    rw [q.length] at z
    rw [cut_whole z] at h
    exact h.same s r
  · rename_i xs
    obtain ⟨a, vs, rfl, t, q⟩ := id r
    split at h
    · exact h.elim
    · rename_i hz
      refine .inr (.inl ⟨a, vs, rfl, .inr t, fun z => ?_, fun z p hp => h.tup s hp (cut_rep q lo hi)⟩)
      rw [q.length] at z
      exact absurd z hz
  · cases r
    split at h
    · exact .inr (.inr ⟨_, rfl, by rw [sizeLine_line]; assumption, h.same s rfl⟩)
    · exact h.elim
  · exact lists r h

/-! ### built-ins called -/
def OkC (g : Gd) (r : List V → Hp → VK → Prop) (p : List D → Store → Option PO) : Prop :=
  ∀ W H M ds vs Q, SR g W H M → Reps g.K W H ds vs → PRes g W H Q (p ds M) → r vs H Q
def rLenM (K : PySem.W.Frag) : List V → Hp → VK → Prop := fun xs H Q => (∃ p ys, xs = [.ref p] ∧ (SqL K H p ys ∨ SqT K H p ys) ∧ Q (.int ys.length) H) ∨
  ((∃ z, xs = [.str z] ∧ z.length ≤ sizeLine ∧ Q (.int z.length) H) ∨ (∃ a kvs, xs = [V.ref a] ∧ H a = some (.dK kvs) ∧ Q (.int kvs.length) H))
theorem call_lenM {X : Cx} : CallR X (.builtin "len") (rLenM X.K) := call_len_seq.or (call_len_str.or call_lenD)
theorem ok_len : OkC g (rLenM g.K) pLen := by
  intro W H M ds vs Q s r h
  unfold pLen at h
  split at h
  · rename_i a
    obtain ⟨x, rfl, rx⟩ := r.one
    cases q : lenD M a with
    | none => rw [q] at h; exact h.elim
    | some n =>
      rw [q] at h
      have hq : Q (.int (n : Int)) H := h.same s rfl
      have seq : ∀ {xs : List D}, viewS M a = some xs → n = xs.length → rLenM g.K [x] H Q := fun {xs} e1 e2 => by
        obtain ⟨b, vs, rfl, t, q'⟩ := ss_of s rx e1
        refine .inl ⟨b, vs, rfl, ?_, by rw [q'.length, ← e2]; exact hq⟩
        rcases t with ⟨t, _⟩ | ⟨t, _⟩
        · exact .inl t
        · exact .inr t
      unfold lenD at q
      split at q
      · cases rx
        split at q
        · cases q; exact .inr (.inl ⟨_, rfl, by rw [sizeLine_line]; assumption, hq⟩)
        · cases q
      · cases q; exact seq rfl rfl
      · cases q; exact seq rfl rfl
      · cases q; exact seq rfl rfl
      · cases q; exact seq rfl rfl
      · split at q
        · rename_i hk; cases q; exact seq (viewL_oid hk) rfl
        · rename_i hk; cases q
          obtain ⟨b, rfl, _, ks, hv, t⟩ := ob_of s rx hk
          exact .inr (.inr ⟨b, ks, rfl, hv, by rw [t.length]; exact hq⟩)
        · cases q
      · cases q
  · exact h.elim
def rIntM : List V → Hp → VK → Prop := fun xs H Q => ((∃ i, xs = [.int i] ∧ Q (.int i) H) ∨ ∃ k, xs = [.bl k] ∧ Q (.int (if k then 1 else 0)) H) ∨
  (∃ a n, xs = [.str a] ∧ PySem.intText? a = some n ∧ a.length ≤ 640 ∧ Q (.int n) H)
theorem call_intM {X : Cx} : CallR X (.type "int") rIntM := call_int1.or call_int_str
theorem ok_int : OkC g rIntM pInt := by
  intro W H M ds vs Q s r h
  unfold pInt at h
  split at h
  · obtain ⟨x, rfl, rx⟩ := r.one; cases rx; exact .inl (.inl ⟨_, rfl, h.same s rfl⟩)
  · obtain ⟨x, rfl, rx⟩ := r.one; cases rx; exact .inl (.inr ⟨_, rfl, h.same s rfl⟩)
  · obtain ⟨x, rfl, rx⟩ := r.one
    cases rx
    split at h
    · split at h
      · exact .inr ⟨_, _, rfl, by assumption, by assumption, h.same s rfl⟩
      · exact h.elim
    · exact h.elim
  · exact h.elim
def rListM (K : PySem.W.Frag) : List V → Hp → VK → Prop := fun xs H Q => ∃ p ys, xs = [.ref p] ∧ (SqL K H p ys ∨ SqT K H p ys) ∧ ∀ l, H l = none → Q (.ref l) (upd H l (.lst ys))
theorem perm2 {α : Type} {x y : α} {ys : List α} (h : ys.Perm [x, y]) : ys = [x, y] ∨ ys = [y, x] := by
  have hl := h.length_eq
  match ys, hl with
  | [u, v], _ =>
    have hu : u ∈ [x, y] := h.subset List.mem_cons_self
    rcases List.mem_cons.mp hu with rfl | hu
    · have := List.Perm.cons_inv h
      rw [List.perm_singleton] at this
      rw [this]; exact .inl rfl
    · have hu := List.mem_singleton.mp hu
      subst hu
      have := List.Perm.cons_inv (h.trans (List.Perm.swap _ _ _))
      rw [List.perm_singleton] at this
      rw [this]; exact .inr rfl
theorem cps_inj {x y : PySem.Str} (h : x.cps.toList = y.cps.toList) : x = y := by
  cases x; cases y
  congr 1
  exact Array.ext' h
theorem ok_sort2 : OkC g (rSortedS g.K) pSort2 := by
  intro W H M ds vs Q s r h
  unfold pSort2 at h
  split at h
  · rename_i a
    obtain ⟨v, rfl, rx⟩ := r.one
    split at h
    · rename_i x y hv
      obtain ⟨b, ws, rfl, t, q⟩ := sq_of s rx hv
      have ew : ws = [V.str x, V.str y] := by
        obtain ⟨v1, r1, e1, h1, h2⟩ := q
        obtain ⟨v2, r2, e2, h3, h4⟩ := h2
        subst e1 e2
        cases h1
        cases h3
        rw [show r2 = [] from h4]
      subst ew
      refine ⟨b, [x, y], rfl, t, by show 2 < 64; decide, fun ys p perm srt hp => ?_⟩
      split at h
      · rename_i c d hc hd
        have eqz : ∀ u w : PySem.Str, sortedS [u, w] = !ltCps w.cps.toList u.cps.toList := fun u w => by
          show (!_ && true) = _
          rw [Bool.and_true]
        split at h
        · rename_i hlt
          rcases perm2 perm with rfl | rfl
          · rw [eqz, hc, hd] at srt
            have e : ltCps [d] [c] = true := by
              show (decide (d < c) || _) = true
              rw [decide_eq_true hlt]; rfl
            rw [e] at srt; cases srt
          · exact h p _ hp (.cons rfl (.cons rfl .nil))
        · rename_i hlt
          rcases perm2 perm with rfl | rfl
          · exact h p _ hp (.cons rfl (.cons rfl .nil))
          · rw [eqz, hc, hd] at srt
            have : c = d := by
              have e : ltCps [c] [d] = decide (c < d) := by
                show (decide (c < d) || ((c == d) && false)) = _
                rw [Bool.and_false, Bool.or_false]
              rw [e] at srt
              have : ¬ c < d := by simpa using srt
              omega
            have e : x = y := cps_inj (by rw [hc, hd, this])
            subst e
            exact h p _ hp (.cons rfl (.cons rfl .nil))
      · exact h.elim
    · exact h.elim
  · exact h.elim
theorem ok_list : OkC g (rListM g.K) pList := by
  intro W H M ds vs Q s r h
  unfold pList at h
  split at h
  · rename_i a
    obtain ⟨x, rfl, rx⟩ := r.one
    cases q : viewS M a with
    | none => rw [q] at h; exact h.elim
    | some ys =>
      rw [q] at h
      obtain ⟨b, vs, rfl, t, q'⟩ := ss_of s rx q
      refine ⟨b, vs, rfl, ?_, fun l hl => h l _ hl q'⟩
      rcases t with ⟨t, _⟩ | ⟨t, _⟩
      · exact .inl t
      · exact .inr t
  · exact h.elim
def rTupleM (K : PySem.W.Frag) : List V → Hp → VK → Prop := fun xs H Q => ∃ p ys, xs = [.ref p] ∧ ((SqL K H p ys ∧ ∀ l, H l = none → Q (.ref l) (upd H l (.tup ys))) ∨ (SqT K H p ys ∧ Q (.ref p) H))
theorem ok_tuple : OkC g (rTupleM g.K) pTuple := by
  intro W H M ds vs Q s r h
  unfold pTuple at h
  split at h
  · obtain ⟨x, rfl, rx⟩ := r.one
    obtain ⟨a, vs, rfl, t, q⟩ := id rx
    exact ⟨a, vs, rfl, .inr ⟨.inr t, h.same s rx⟩⟩
  · rename_i a hn
    obtain ⟨x, rfl, rx⟩ := r.one
    cases q : viewS M a with
    | none => rw [q] at h; exact h.elim
    | some ys =>
      rw [q] at h
      obtain ⟨b, vs, rfl, t, q'⟩ := ss_of s rx q
      rcases t with ⟨t, _⟩ | ⟨t, e⟩
      · exact ⟨b, vs, rfl, .inl ⟨t, fun l hl => h.tup s hl q'⟩⟩
      · rcases e with e | e
        · subst e; exact ⟨b, vs, rfl, .inr ⟨t, h.same s rx⟩⟩
        · exact absurd e (hn _)
  · exact h.elim
theorem ok_min : OkC g (fun xs H Q => ∃ i j, xs = [.int i, .int j] ∧ Q (.int (if j < i then j else i)) H) pMin := by
  intro W H M ds vs Q s r h
  unfold pMin at h
  split at h
  · obtain ⟨x, y, rfl, rx, ry⟩ := r.two; cases rx; cases ry; exact ⟨_, _, rfl, h.same s rfl⟩
  · exact h.elim
theorem ok_max : OkC g (fun xs H Q => ∃ i j, xs = [.int i, .int j] ∧ Q (.int (if j > i then j else i)) H) pMax := by
  intro W H M ds vs Q s r h
  unfold pMax at h
  split at h
  · obtain ⟨x, y, rfl, rx, ry⟩ := r.two; cases rx; cases ry; exact ⟨_, _, rfl, h.same s rfl⟩
  · exact h.elim
theorem ok_ord : OkC g (fun xs H Q => ∃ x, xs = [.str x] ∧ x.length = 1 ∧ Q (.int (x.cps.getD 0 0 : Nat)) H) pOrd := by
  intro W H M ds vs Q s r h
  unfold pOrd at h
  split at h
  · obtain ⟨x, rfl, rx⟩ := r.one
    cases rx
    split at h
    · exact ⟨_, rfl, by assumption, h.same s rfl⟩
    · exact h.elim
  · exact h.elim
theorem log2_small {i : Int} (h : i.natAbs < 2 ^ 1900) : i.natAbs.log2 < 1920 := by
  by_cases z : i.natAbs = 0
  · rw [z]; decide
  · exact Nat.lt_of_lt_of_le ((Nat.log2_lt z).mpr h) (by decide)
theorem ok_str : OkC g (fun xs H Q => ∃ i, xs = [.int i] ∧ i.natAbs.log2 < 1920 ∧ Q (.str (toString i)) H) pStr := by
  intro W H M ds vs Q s r h
  unfold pStr at h
  split at h
  · obtain ⟨x, rfl, rx⟩ := r.one
    cases rx
    split at h
    · exact ⟨_, rfl, log2_small (by assumption), h.same s rfl⟩
    · exact h.elim
  · exact h.elim
def tyName : Ty → String
  | .bool => "bool" | .int => "int" | .str => "str" | .list => "list" | .tuple => "tuple"
theorem ok_isinst (t : Ty) : ∀ W H M d x (Q : VK), SR g W H M → Rep g.K W H d x → PRes g W H Q (pIsinst t [d] M) → rIsi g.K [x, .ty (tyName t)] H Q := by
  intro W H M d x Q s rx h
  unfold pIsinst at h
  dsimp only at h
  cases q : isTy t M d with
  | none => rw [q] at h; exact h.elim
  | some b =>
    rw [q] at h
    have hq : Q (.bl b) H := h.same s rfl
    have fin : ∀ {T : String}, TyX g.K H x (.type T) → kitB T (tyName t) = some b → rIsi g.K [x, .ty (tyName t)] H Q := fun {T} ty e => ⟨x, _, _, _, b, rfl, .ty _, ty, kit_ty e, hq⟩
    cases d with
    | non => cases rx; exact fin (.base .non) (by cases t <;> cases q <;> decide +kernel)
    | bl y => cases rx; exact fin (.base (.bl y)) (by cases t <;> cases q <;> decide +kernel)
    | int i => cases rx; exact fin (.base (.int i)) (by cases t <;> cases q <;> decide +kernel)
    | sy z => cases rx; exact fin (.base (.str (nm z))) (by cases t <;> cases q <;> decide +kernel)
    | str z => cases rx; exact fin (.base (.str z)) (by cases t <;> cases q <;> decide +kernel)
    | tup ys => obtain ⟨a, vs, rfl, e, _⟩ := rx; exact fin (.base (.tup e)) (by cases t <;> cases q <;> decide +kernel)
    | ktup ys => obtain ⟨a, vs, rfl, ⟨o, its, n, e, c, _⟩, _⟩ := rx; exact fin (.kTuple e c) (by cases t <;> cases q <;> decide +kernel)
    | lst ys => obtain ⟨a, vs, rfl, e, _⟩ := rx; exact fin (.base (.lst e.2)) (by cases t <;> cases q <;> decide +kernel)
    | scr ys =>
      obtain ⟨a, vs, rfl, e, _⟩ := rx
      rcases e with ⟨o, e⟩ | ⟨o, its, n, e, c, _⟩
      · exact fin (.base (.frz e)) (by cases t <;> cases q <;> decide +kernel)
      · exact fin (.kList e c) (by cases t <;> cases q <;> decide +kernel)
    | oid n =>
      have q' : (match M[n]? with
        | some (.lst _) => some (t == .list)
        | some (.dk _) => some false
        | some (.dt _) => some false
        | _ => none) = some b := by
        cases t <;> exact q
      split at q'
      · rename_i hk
        obtain ⟨a, rfl, _, vs, hv, _⟩ := ob_of s rx hk
        exact fin (.base (.lst hv)) (by cases t <;> cases q' <;> decide +kernel)
      · rename_i hk
        obtain ⟨a, rfl, _, vs, hv, _⟩ := ob_of s rx hk
        cases q'
        exact fin (.base (.dK hv)) (by cases t <;> decide +kernel)
      · rename_i hk
        obtain ⟨a, rfl, _, vs, hv, _⟩ := ob_of s rx hk
        cases q'
        exact fin (.base (.dT hv)) (by cases t <;> decide +kernel)
      · cases q'
    | exr => cases t <;> cases q

/-! ### methods of lists -/
theorem list_extend_tup (l : Addr) (items : Array Value) (n : Nat) (b : Addr) (items2 : Array Value) (n2 : Nat) (dd : Option Addr) (sl : Array (Option Value)) (hs0 : ¬(!items.isEmpty && Builtin.List.listTooLong (items.size + items2.size)) = true) (hs1 : items.size ≤ sizeLine) (hs2 : items.size + items2.size ≤ sizeLine + 1) :
    Meets (Builtin.«list.extend» ⟨[.ref l, .ref b], []⟩) (fun _ R s => s.heap.get? l = some { cls := .type "list", dict := none, data := .seq items n, slots := #[] } ∧ s.heap.get? b = some { cls := .type "tuple", dict := dd, data := .seq items2 n2, slots := sl } ∧ R (.ok (.ret Value.none)) { s with heap := s.heap.update l (Obj.mapSeq fun x => x ++ items2), toks := s.toks }) :=
  .of_wp fun prog w A R s h => by
    obtain ⟨hp, g, d, tk, os⟩ := s; obtain ⟨hl, hb, h⟩ := h; have f1 := AutoSeq1.idx_int; have f2 := AutoSeq1.sub_tuple_tuple; have f3 := AutoSeq1.sub_list_list; have f4 := AutoSeq1.sub_tuple_list; have f5 := AutoSeq1.sub_list_tuple;
    have hz' : (items ++ items2).size ≤ sizeLine + 1 := by rw [Array.size_append]; exact hs2
    wp_walk using (wpAny_updateSeq hl rfl (hz := hs1) (_hz' := hz')), AutoSeq1.wpAny_loadPart' hl, AutoSeq1.wpAny_loadPart' hb; exact ⟨_, rfl, h⟩
theorem mt_extendT {X : Cx} : MtR X "list.extend" (fun x vs H Q => ∃ l b xs zs, x = .ref l ∧ vs = [.ref b] ∧ H l = some (.lst xs) ∧ SqT X.K H b zs ∧ xs.length + zs.length ≤ sizeLine ∧ Q .non (upd H l (.lst (xs ++ zs)))) := by
  intro pins s σ H x vs v us Q I rx rv h
  obtain ⟨l, b, xs, zs, rfl, rfl, hH, hB, hz, q⟩ := h
  cases rx
  obtain ⟨u, rfl, ru⟩ := rv.one
  cases ru
  obtain ⟨z, its, n, r, hl, e⟩ := I.lstM hH
  obtain ⟨its2, r2, ⟨o2, e2, hc2, n2, hd2⟩, z2⟩ := I.tuple hB
  obtain ⟨cls2, dd2, dat2, sl2⟩ := o2
  dsimp only at hc2 hd2
  subst hc2
  subst hd2
  have hl2 := r2.length
  have hsz : its.toArray.size + its2.toArray.size ≤ sizeLine := by rw [List.size_toArray, List.size_toArray]; omega
  have hlong : ¬ (!its.toArray.isEmpty && Builtin.List.listTooLong (its.toArray.size + its2.toArray.size)) = true := by
    rw [notLongL hsz, Bool.and_false]
    exact Bool.false_ne_true
  refine call_meets F.slot_list_extend ⟨_, e, rfl⟩ F.entry_list_extend (F.args_list_extend_2 _ _)
    (list_extend_tup l its.toArray n b its2.toArray n2 dd2 sl2 hlong (by rw [List.size_toArray]; omega) (by omega)) ⟨e, e2, ?_⟩
  refine ⟨.non, _, I.lset (its' := its ++ its2) hH e (by simp) (r.append r2) ?_, rfl, q⟩
  rw [List.length_append]
  omega
def rExtM (K : PySem.W.Frag) : V → List V → Hp → VK → Prop := fun x vs H Q => rExtend x vs H Q ∨ (∃ l b xs zs, x = .ref l ∧ vs = [.ref b] ∧ H l = some (.lst xs) ∧ SqT K H b zs ∧ xs.length + zs.length ≤ sizeLine ∧ Q .non (upd H l (.lst (xs ++ zs))))
theorem mt_extM {X : Cx} : MtR X "list.extend" (rExtM X.K) := MtR.or mt_extend mt_extendT
theorem ok_append {W : Wd} {H : Hp} {M : Store} {d e : D} {x y : V} {Q : VK} (s : SR g W H M) (r1 : Rep g.K W H d x) (r2 : Rep g.K W H e y) (h : PRes g W H Q (pAppend [d, e] M)) : rAppend x [y] H Q := by
  unfold pAppend at h
  split at h
  · rename_i M' n y' he
    cases he
    split at h
    · rename_i xs hk
      split at h
      · rename_i hl
        obtain ⟨a, rfl, ea, vs, hv, t⟩ := ob_of s r1 hk
        refine ⟨a, vs, y, rfl, rfl, hv, by rw [t.length, sizeLine_line]; exact hl, ?_⟩
        obtain ⟨ex, s'⟩ := s.write (b := .lst (xs ++ [e])) (h := .lst (vs ++ [y])) hk ea (by intro z; cases z) fun ex => ⟨_, upd_same, (t.up ex).snoc (r2.up ex)⟩
        exact h W _ _ ex s' rfl
      · exact h.elim
    · exact h.elim
  · exact h.elim
theorem ok_extend {W : Wd} {H : Hp} {M : Store} {d e : D} {x y : V} {Q : VK} (s : SR g W H M) (r1 : Rep g.K W H d x) (r2 : Rep g.K W H e y) (h : PRes g W H Q (pExtend [d, e] M)) : rExtM g.K x [y] H Q := by
  unfold pExtend at h
  split at h
  · rename_i M' n y' he
    cases he
    split at h
    · rename_i xs ys hk hy
      split at h
      · rename_i hl
        obtain ⟨a, rfl, ea, vs, hv, t⟩ := ob_of s r1 hk
        have fin : ∀ {b : Addr} {ws : List V}, y = .ref b → Reps g.K W H ys ws → (H b = some (.lst ws) ∨ SqT g.K H b ws) → rExtM g.K (.ref a) [y] H Q := fun {b ws} eb q hb => by
          subst eb
          obtain ⟨ex, s'⟩ := s.write (b := .lst (xs ++ ys)) (h := .lst (vs ++ ws)) hk ea (by intro z; cases z) fun ex => ⟨_, upd_same, (t.up ex).append (q.up ex)⟩
          have hq : Q .non (upd H a (.lst (vs ++ ws))) := h W _ _ ex s' rfl
          have hz : vs.length + ws.length ≤ sizeLine := by rw [t.length, q.length, sizeLine_line]; exact hl
          rcases hb with hb | hb
          · exact .inl ⟨a, b, vs, ws, rfl, rfl, hv, hb, hz, hq⟩
          · exact .inr ⟨a, b, vs, ws, rfl, rfl, hv, hb, hz, hq⟩
        cases e with
        | tup zs => cases hy; obtain ⟨b, ws, eb, hb, q⟩ := r2; exact fin eb q (.inr (.of hb))
        | ktup zs => cases hy; obtain ⟨b, ws, eb, hb, q⟩ := r2; exact fin eb q (.inr (.inr hb))
        | lst zs => cases hy; obtain ⟨b, ws, eb, hb, q⟩ := r2; exact fin eb q (.inl hb.2)
        | oid k => obtain ⟨b, ws, eb, hb, q⟩ := hp_of s r2 (show viewH _ (.oid k) = some ys from hy); exact fin eb q (.inl hb)
        | scr zs => cases hy
        | non => cases hy
        | bl _ => cases hy
        | int _ => cases hy
        | str _ => cases hy
        | sy _ => cases hy
        | exr => cases hy
      · exact h.elim
    · exact h.elim
  · exact h.elim

/-! ### dicts -/
theorem key_rep {W : Wd} {H : Hp} {d : D} {y : V} {k : Key} (r : Rep g.K W H d y) (h : keyD d = some k) : y = kV k := by
  cases d with
  | int i => cases h; cases r; rfl
  | str x => cases h; cases r; rfl
  | sy x => cases h; cases r; rfl
  | non => cases h
  | bl _ => cases h
  | tup _ => cases h
  | ktup _ => cases h
  | lst _ => cases h
  | scr _ => cases h
  | oid _ => cases h
  | exr => cases h
theorem keys_rep {W : Wd} {H : Hp} : ∀ {ds : List D} {vs : List V} {ks : List Key}, Reps g.K W H ds vs → keysD ds = some ks → vs = ks.map kV
  | [], _, ks, r, h => by rw [show _ = [] from r]; cases h; rfl
  | d :: ds, _, ks, ⟨v, r, e, h1, h2⟩, h => by
    subst e
    unfold keysD at h
    split at h
    · rename_i k ks' e1 e2
      cases h
      rw [List.map_cons, key_rep h1 e1, keys_rep h2 e2]
    · cases h
theorem getD_ok {W : Wd} {H : Hp} {M : Store} (s : SR g W H M) {n : Nat} {k : D} {x y : V} {o : Option D} (r1 : Rep g.K W H (.oid n) x) (r2 : Rep g.K W H k y) (h : getD M n k = some o) :
    ∃ a ov, x = .ref a ∧ IsD H a ∧ DGet H a y ov ∧ (o = none → ov = none) ∧ ∀ d, o = some d → ∃ v, ov = some v ∧ Rep g.K W H d v := by
  unfold getD at h
  split at h
  · rename_i kvs hk
    obtain ⟨a, rfl, ea, ks, hv, t⟩ := ob_of s r1 hk
    cases e : keyD k with
    | none => rw [e] at h; cases h
    | some key =>
      rw [e] at h
      cases h
      rw [key_rep r2 e]
      obtain ⟨l1, l2⟩ := t.look key
      exact ⟨a, _, rfl, .inl ⟨ks, .inl hv⟩, .k hv, l2, l1⟩
  · rename_i kvs hk
    obtain ⟨a, rfl, ea, ks, hv, t⟩ := ob_of s r1 hk
    split at h
    · rename_i ds
      cases e : keysD ds with
      | none => rw [e] at h; cases h
      | some key =>
        rw [e] at h
        cases h
        obtain ⟨b, vs, rfl, hb, q⟩ := r2
        rw [keys_rep q e] at hb
        obtain ⟨l1, l2⟩ := t.look key
        exact ⟨a, _, rfl, .inr ⟨ks, .inl hv⟩, .t hv hb, l2, l1⟩
    · cases h
  · cases h
theorem setD_ok {W : Wd} {H : Hp} {M M' : Store} (s : SR g W H M) {n : Nat} {k z : D} {x y v : V} (r1 : Rep g.K W H (.oid n) x) (r2 : Rep g.K W H k y) (r3 : Rep g.K W H z v) (h : setD M n k z = some M') :
    ∃ a H', x = .ref a ∧ DPut H a y v H' ∧ Ext g.K W H W H' ∧ SR g W H' M' := by
  unfold setD at h
  split at h
  · rename_i kvs hk
    obtain ⟨a, rfl, ea, ks, hv, t⟩ := ob_of s r1 hk
    split at h
    · rename_i key e
      split at h
      · rename_i hl
        cases h
        rw [key_rep r2 e]
        obtain ⟨ex, s'⟩ := s.write (b := .dk (storeK kvs key z)) (h := .dK (putK ks key v)) hk ea (by intro z; cases z) fun ex => ⟨_, upd_same, (t.mono ex.toExt0).put (r3.up ex)⟩
        exact ⟨a, _, rfl, .k hv (by rw [t.length, sizeLine_line]; exact hl), ex, s'⟩
      · cases h
    · cases h
  · rename_i kvs hk
    obtain ⟨a, rfl, ea, ks, hv, t⟩ := ob_of s r1 hk
    split at h
    · rename_i ds
      split at h
      · rename_i key e
        split at h
        · rename_i hl
          cases h
          obtain ⟨b, vs, rfl, hb, q⟩ := r2
          rw [keys_rep q e] at hb
          obtain ⟨ex, s'⟩ := s.write (b := .dt (storeK kvs key z)) (h := .dT (putK ks key v)) hk ea (by intro z; cases z) fun ex => ⟨_, upd_same, (t.mono ex.toExt0).put (r3.up ex)⟩
          exact ⟨a, _, rfl, .t hv hb (by rw [t.length, sizeLine_line]; exact hl), ex, s'⟩
        · cases h
      · cases h
    · cases h
  · cases h
/-- xs[i] = y -/
theorem setL_ok {W : Wd} {H : Hp} {M : Store} (s : SR g W H M) {n : Nat} {k : Int} {j : Nat} {xs : List D} {z : D} {x v : V} {Q : Hp → Prop} (r1 : Rep g.K W H (.oid n) x) (r3 : Rep g.K W H z v) (hk : M[n]? = some (.lst xs)) (hj : ixN xs.length k = some j)
    (h : ∀ H', Ext g.K W H W H' → SR g W H' (M.set n (.lst (xs.set j z))) → Q H') : rSetL x (.int k) v H Q := by
  obtain ⟨a, rfl, ea, vs, hv, t⟩ := ob_of s r1 hk
  obtain ⟨ex, s'⟩ := s.write (b := .lst (xs.set j z)) (h := .lst (vs.set j v)) hk ea (by intro z; cases z) fun ex => ⟨_, upd_same, (t.up ex).set (r3.up ex) j⟩
  exact ⟨a, vs, k, j, rfl, rfl, hv, by rw [t.length]; exact hj, h _ ex s'⟩
end
section
variable {g : Gd}
theorem ok_count {W : Wd} {H : Hp} {M : Store} {d e : D} {x y : V} {Q : VK} (s : SR g W H M) (r1 : Rep g.K W H d x) (r2 : Rep g.K W H e y) (h : PRes g W H Q (pCount [d, e] M)) : rCntI g.K x [y] H Q := by
  unfold pCount at h
  split at h
  · rename_i M' a k he
    cases he
    cases r2
    split at h
    · rename_i xs e1
      split at h
      · rename_i ns e2
        obtain rfl := asI_ints e2
        obtain ⟨b, vs, rfl, t1, q1⟩ := sq_of s r1 e1
        have e3 := ints_vals q1
        subst e3
        exact ⟨b, ns, k, rfl, rfl, t1, h.same s rfl⟩
      · exact h.elim
    · exact h.elim
  · exact h.elim
theorem ok_index {W : Wd} {H : Hp} {M : Store} {d e : D} {x y : V} {Q : VK} (s : SR g W H M) (r1 : Rep g.K W H d x) (r2 : Rep g.K W H e y) (h : PRes g W H Q (pIndex [d, e] M)) : rIndex g.K x [y] H Q := by
  unfold pIndex at h
  dsimp only at h
  split at h
  · rename_i xs e1
    split at h
    · rename_i hf
      rw [Bool.and_eq_true] at hf
      split at h
      · rename_i j hj
        obtain ⟨b, vs, rfl, t1, q1⟩ := sq_of s r1 e1
        obtain ⟨f1, f2⟩ := flat_V r2 hf.1
        obtain ⟨f3, f4⟩ := flat_Vs q1 hf.2
        subst f1
        subst f3
        obtain ⟨hl, h1, h2⟩ := List.findIdx?_eq_some_iff_getElem.mp hj
        refine ⟨b, xs.map toV, toV e, j, toV xs[j], rfl, rfl, t1, f2, f4, by rw [List.getElem?_map, List.getElem?_eq_getElem hl]; rfl, h1, fun m z' hm hz => ?_, h.same s rfl⟩
        rw [List.getElem?_map, List.getElem?_eq_getElem (Nat.lt_trans hm hl)] at hz
        rw [← Option.some.inj hz]
        simpa using h2 m hm
      · exact h.elim
    · exact h.elim
  · exact h.elim
end
end Mo
/-! Mo4: expressions by what they evaluate to. -/
namespace Mo
open PySem PySem.Spec L2
open PyProof.Rows hiding St

theorem bnd_assoc {α β γ : Type} (r : Rs α) (k : α → Store → Rs β) (k' : β → Store → Rs γ) : bnd (bnd r k) k' = bnd r fun a M => bnd (k a M) k' := by
  cases r with
  | none => rfl
  | some o => cases o <;> rfl

/-- the fields of an exception -/
def XdR (g : Gd) (W : Wd) (H : Hp) (fs : List (Nat × D)) (dd : Option Addr) : Prop :=
  fs = [] ∨ ∃ d fv, dd = some d ∧ H d = some (.xd fv) ∧ ∀ f y, fs.lookup f = some y → ∃ v, fv.lookup (nm f) = some v ∧ Rep g.K W H y v
def RepX (g : Gd) (W : Wd) (H : Hp) (x : Exn) (c : Value) (dd : Option Addr) : Prop := c = .ref (g.ca x.cls) ∧ XdR g W H x.fs dd
theorem XdR.up0 {g : Gd} {W W' : Wd} {H H' : Hp} {fs : List (Nat × D)} {dd : Option Addr} (h : XdR g W H fs dd) (e : Ext0 g.K W H W' H') : XdR g W' H' fs dd := by
  rcases h with h | ⟨d, fv, h1, h2, h3⟩
  · exact .inl h
  · refine .inr ⟨d, fv, h1, e.xds d fv h2, fun f y q => ?_⟩
    obtain ⟨v, a, b⟩ := h3 f y q
    exact ⟨v, a, b.up0 e⟩
/-- the exception that is handled: its fields, its dict, its address, the slot of its name -/
abbrev Cur := Option (Exn × Option Addr × Addr × Nat)
structure Pre (g : Gd) (cx : Cur) (W : Wd) (H : Hp) (δ : Sl) (σ : St) (M : Store) : Prop where
  len : δ.length = σ.length
  sl : ∀ (i : Nat) d, δ[i]? = some (some d) → isExr d = false → ∃ v, σ[i]? = some (some v) ∧ Rep g.K W H d v
  sr : SR g W H M
  cur : ∀ x dd a i, cx = some (x, dd, a, i) → XdR g W H x.fs dd ∧ (δ[i]? = some (some .exr) → σ[i]? = some (some (.ref a)))
theorem Pre.up0 {g : Gd} {cx : Cur} {W W' : Wd} {H H' : Hp} {δ : Sl} {σ : St} {M M' : Store} (p : Pre g cx W H δ σ M) (e : Ext0 g.K W H W' H') (s : SR g W' H' M') : Pre g cx W' H' δ σ M' :=
  ⟨p.len, fun i d h hx => let ⟨v, a, b⟩ := p.sl i d h hx; ⟨v, a, b.up0 e⟩, s, fun x dd a i h => ⟨(p.cur x dd a i h).1.up0 e, (p.cur x dd a i h).2⟩⟩
theorem Pre.up {g : Gd} {cx : Cur} {W W' : Wd} {H H' : Hp} {δ : Sl} {σ : St} {M M' : Store} (p : Pre g cx W H δ σ M) (e : Ext g.K W H W' H') (s : SR g W' H' M') : Pre g cx W' H' δ σ M' := p.up0 e.toExt0 s

def Res {α β : Type} (g : Gd) (Wx : WX) (R : Wd → Hp → α → β → Prop) (W : Wd) (H : Hp) (σ : St) (Q : β → Hp → Prop) : Rs α → Prop
  | some (.ok a M) => ∀ W' H' b, Ext g.K W H W' H' → SR g W' H' M → R W' H' a b → Q b H'
  | some (.exc x M) => ∀ W' H' c dd, Ext g.K W H W' H' → SR g W' H' M → RepX g W' H' x c dd → Wx c dd σ H'
  | none => False
def tG {α β : Type} (g : Gd) (cx : Cur) (Wx : WX) (R : Wd → Hp → α → β → Prop) (f : Sl → Store → Rs α) : St → Hp → (β → Hp → Prop) → Prop := fun σ H Q =>
  ∃ W δ M, Pre g cx W H δ σ M ∧ Res g Wx R W H σ Q (f δ M)
abbrev RD (g : Gd) : Wd → Hp → D → V → Prop := Rep g.K
abbrev RL (g : Gd) : Wd → Hp → List D → List V → Prop := Reps g.K
abbrev RB : Wd → Hp → Bool → Bool → Prop := fun _ _ a b => a = b

section
variable {α β γ ζ : Type} {g : Gd} {cx : Cur} {Wx : WX} {R : Wd → Hp → α → β → Prop} {R' : Wd → Hp → γ → ζ → Prop} {W W' : Wd} {H H' : Hp} {σ : St} {Q : ζ → Hp → Prop} {δ : Sl} {M M' : Store}
theorem Res.up {r : Rs γ} (h : Res g Wx R' W H σ Q r) (e : Ext g.K W H W' H') : Res g Wx R' W' H' σ Q r := by
  cases r with
  | none => exact h
  | some o =>
    cases o with
    | ok a M => exact fun W2 H2 b e2 s r => h W2 H2 b (e.trans e2) s r
    | exc x M => exact fun W2 H2 c dd e2 s r => h W2 H2 c dd (e.trans e2) s r
/-- one after the other -/
theorem Res.step {f : Sl → Store → Rs α} {k : α → Store → Rs γ} (p : Pre g cx W H δ σ M) (h : Res g Wx R' W H σ Q (bnd (f δ M) k)) :
    tG g cx Wx R f σ H fun b H1 => ∃ W1 a M1, Ext g.K W H W1 H1 ∧ Pre g cx W1 H1 δ σ M1 ∧ R W1 H1 a b ∧ Res g Wx R' W1 H1 σ Q (k a M1) := by
  refine ⟨W, δ, M, p, ?_⟩
  cases e : f δ M with
  | none => rw [e] at h; exact h
  | some o =>
    rw [e] at h
    cases o with
    | ok a M1 =>
      have h' : Res g Wx R' W H σ Q (k a M1) := h
      exact fun W1 H1 b e1 s1 r1 => ⟨W1, a, M1, e1, p.up e1 s1, r1, h'.up e1⟩
    | exc x M1 => exact h
theorem tG.mono {f : Sl → Store → Rs α} {Q Q' : β → Hp → Prop} (h : tG g cx Wx R f σ H Q) (hq : ∀ b H', Q b H' → Q' b H') : tG g cx Wx R f σ H Q' := by
  obtain ⟨W, δ, M, p, r⟩ := h
  refine ⟨W, δ, M, p, ?_⟩
  cases e : f δ M with
  | none => rw [e] at r; exact r
  | some o =>
    rw [e] at r
    cases o with
    | ok a M1 => exact fun W1 H1 b e1 s1 r1 => hq b H1 (r W1 H1 b e1 s1 r1)
    | exc x M1 => exact r
theorem Res.done {a : γ} {b : ζ} (h : Res g Wx R' W H σ Q (rok a M)) (s : SR g W H M) (r : R' W H a b) : Q b H := h W H b .refl s r
end
theorem PE.imp {X : Cx} {e : Expr} {t t' : TE} (h : PE X e t) (hi : ∀ σ H Q, t' σ H Q → t σ H Q) : PE X e t' := ⟨fun pins s σ H Q I q => h.run pins s σ H Q I (hi σ H Q q)⟩
theorem PT.imp {X : Cx} {e : Expr} {t t' : TT} (h : PT X e t) (hi : ∀ σ H Q, t' σ H Q → t σ H Q) : PT X e t' := ⟨fun pins s σ H Q I q => h.run pins s σ H Q I (hi σ H Q q)⟩
theorem PW.imp {X : Cx} {e : Expr} {t t' : TT} (h : PW X e t) (hi : ∀ σ H Q, t' σ H Q → t σ H Q) : PW X e t' := ⟨fun w pins s σ H Q I q => h.run w pins s σ H Q I (hi σ H Q q)⟩
theorem PA.imp {X : Cx} {e : List Expr} {t t' : TA} (h : PA X e t) (hi : ∀ σ H Q, t' σ H Q → t σ H Q) : PA X e t' := ⟨fun pos pins s σ H Q I q => h.run pos pins s σ H Q I (hi σ H Q q)⟩
theorem PTs.imp {X : Cx} {e : List Expr} {t t' : TT} (h : PTs X e t) (hi : ∀ σ H Q, t' σ H Q → t σ H Q) : PTs X e t' := ⟨fun pins s σ H Q I q => h.run pins s σ H Q I (hi σ H Q q)⟩

/-- the context's fixed parts -/
structure Cf where
  g : Gd
  cx : Cur
  Wx : WX
abbrev JE (X : Cx) (c : Cf) (e : Expr) (f : Sl → Store → Rs D) : Prop := PE X e (tG c.g c.cx c.Wx (RD c.g) f)
abbrev JA (X : Cx) (c : Cf) (es : List Expr) (f : Sl → Store → Rs (List D)) : Prop := PA X es (tG c.g c.cx c.Wx (RL c.g) f)
abbrev JT (X : Cx) (c : Cf) (e : Expr) (f : Sl → Store → Rs Bool) : Prop := PT X e (tG c.g c.cx c.Wx RB f)
abbrev JW (X : Cx) (c : Cf) (e : Expr) (f : Sl → Store → Rs Bool) : Prop := PW X e (tG c.g c.cx c.Wx RB f)

section
variable {g : Gd} {Wx : WX} {W : Wd} {H : Hp} {σ : St} {Q : VK} {M : Store}
theorem mk_res {m : Bool} {xs : List D} (s : SR g W H M) (h : Res g Wx (RD g) W H σ Q (some (mk m xs M))) {p : Addr} {vs : List V} (hp : H p = none) (r : Reps g.K W H xs vs) : Q (.ref p) (upd H p (.lst vs)) := by
  cases m with
  | false =>
    obtain ⟨W', eW, e, s'⟩ := s.freeze (vs := vs) hp
    refine h W' _ _ e s' ⟨p, vs, rfl, ⟨?_, upd_same⟩, r.up e⟩
    rw [eW]; exact .inr rfl
  | true =>
    obtain ⟨W', eW, e, s'⟩ := s.push (o := .lst vs) (b := .lst xs) hp fun W2 e2 => ⟨vs, upd_same, r.up e2⟩
    refine h W' _ _ e s' ⟨p, rfl, ?_⟩
    rw [eW]
    show (W.ad ++ [p])[M.length]? = some p
    rw [← s.len, List.getElem?_append_right (Nat.le_refl _)]
    simp
theorem po_pres {m : Bool} {o : Option PO} (s : SR g W H M) (h : Res g Wx (RD g) W H σ Q (po m M o)) : PRes g W H Q o := by
  cases o with
  | none => exact h
  | some o =>
    cases o with
    | v d M2 => exact h
    | nl xs => exact fun p vs hp r => mk_res s h hp r
theorem truth_ok {d : D} {x : V} {k : Bool} (s : SR g W H M) (r : Rep g.K W H d x) (h : truth M d = some k) : TruV g.K x H k := by
  have lst : ∀ {d' : D}, Rep g.K W H d' x → (viewL M d').map (fun xs => !xs.isEmpty) = some k → TruV g.K x H k := fun {d'} r' q => by
    cases e : viewL M d' with
    | none => rw [e] at q; cases q
    | some xs =>
      rw [e] at q
      cases q
      obtain ⟨a, vs, rfl, t, q'⟩ := sq_of s r' e
      refine .inl ⟨vs, t, ?_⟩
      have hl := q'.length
      cases vs <;> cases xs <;> first | rfl | cases hl
  have tup : ∀ {xs : List D} {a : Addr} {vs : List V}, SqT g.K H a vs → x = .ref a → Reps g.K W H xs vs → some (!xs.isEmpty) = some k → TruV g.K x H k := fun {xs a vs} t ea q z => by
    cases z
    subst ea
    refine .inr (.inl ⟨vs, t, ?_⟩)
    have hl := q.length
    cases vs <;> cases xs <;> first | rfl | cases hl
  cases d with
  | non => cases h; cases r; rfl
  | bl b => cases h; cases r; rfl
  | int i => cases h; cases r; rfl
  | str z =>
    cases r
    have h' : (if z.length ≤ line then some (z.length != 0) else none) = some k := h
    split at h'
    · cases h'
      refine ⟨by rw [sizeLine_line]; assumption, ?_⟩
      cases hz : z.length <;> simp
      omega
    · cases h'
  | tup xs => obtain ⟨a, vs, ea, t, q⟩ := r; exact tup (.of t) ea q h
  | ktup xs => obtain ⟨a, vs, ea, t, q⟩ := r; exact tup (.inr t) ea q h
  | lst xs => exact lst r h
  | scr xs => exact lst r h
  | oid n => exact lst r h
  | exr => cases h
  | sy _ => cases h
end

section
variable {X : Cx} {c : Cf} {e e1 e2 e3 : Expr} {es : List Expr} {f f1 f2 f3 : Sl → Store → Rs D} {fs : Sl → Store → Rs (List D)} {pos : Pos}
theorem je_imp {t : TE} (h : PE X e t) (hi : ∀ W δ M σ H Q, Pre c.g c.cx W H δ σ M → Res c.g c.Wx (RD c.g) W H σ Q (f δ M) → t σ H Q) : JE X c e f :=
  PE.imp h fun σ H Q ⟨W, δ, M, p, r⟩ => hi W δ M σ H Q p r
theorem je_var {i : Nat} {x : Str} (hN : X.N[i]? = some x) (hv : Vis X.env.scope x) (hd : (x == ("__debug__" : Str)) = false) (hcd : (x == ("__classdict__" : Str)) = false) : JE X c (.Name x pos) (fun δ M => match δ[i]? with
    | some (some d) => if isExr d = true then none else rok d M
    | _ => none) := je_imp (pe_var hN hv hd hcd) fun W δ M σ H Q p r => by
  split at r
  · rename_i d hd
    split at r
    · exact r.elim
    · rename_i hx
      obtain ⟨v, h1, h2⟩ := p.sl i d hd (by simpa using hx)
      exact ⟨v, h1, r.done p.sr h2⟩
  · exact r.elim
theorem je_con {v : V} {d : D} (h : PE X e (tC v)) (hr : ∀ W H, Rep c.g.K W H d v) : JE X c e (fun _ M => rok d M) := je_imp h fun W δ M σ H Q p r => r.done p.sr (hr W H)
/-- two operands -/
theorem je_op2 {r : R2} {p : List D → Store → Option PO} {m : Bool} (h : ∀ {ta tb : TE}, PE X e1 ta → PE X e2 tb → PE X e (tOp r ta tb)) (ok : Ok2 c.g r p) (h1 : JE X c e1 f1) (h2 : JE X c e2 f2) :
    JE X c e (fun δ M => bnd (f1 δ M) fun d1 M1 => bnd (f2 δ M1) fun d2 M2 => po m M2 (p [d1, d2] M2)) := je_imp (h h1 h2) fun W δ M σ H Q q r =>
  (Res.step (R := RD c.g) (f := f1) q r).mono fun x H1 ⟨W1, d1, M1, ex1, p1, rd1, r1⟩ => (Res.step (R := RD c.g) (f := f2) p1 r1).mono fun y H2 ⟨W2, d2, M2, ex2, p2, rd2, r2⟩ =>
    ok W2 H2 M2 d1 d2 x y Q p2.sr (rd1.up ex2) rd2 (po_pres p2.sr r2)
theorem je_bin {o : Operator} {r : R2} {p : List D → Store → Option PO} {m : Bool} (ho : OpR X (binaryOp o) r) (ok : Ok2 c.g r p) (h1 : JE X c e1 f1) (h2 : JE X c e2 f2) :
    JE X c (.BinOp e1 o e2 pos) (fun δ M => bnd (f1 δ M) fun d1 M1 => bnd (f2 δ M1) fun d2 M2 => po m M2 (p [d1, d2] M2)) := je_op2 (pe_op ho) ok h1 h2
theorem je_cmp {o : CmpOp} {r : R2} {p : List D → Store → Option PO} {m : Bool} (ho : OpR X (compareOp o) r) (hm : behindInMarks o e2 = false) (ok : Ok2 c.g r p) (h1 : JE X c e1 f1) (h2 : JE X c e2 f2) :
    JE X c (.Compare e1 [o] [e2] pos) (fun δ M => bnd (f1 δ M) fun d1 M1 => bnd (f2 δ M1) fun d2 M2 => po m M2 (p [d1, d2] M2)) := je_op2 (fun a b => pe_cmpR ho a b hm) ok h1 h2
theorem je_ix {m : Bool} (hs : PlainIx e2) (h1 : JE X c e1 f1) (h2 : JE X c e2 f2) (hK : c.g.K = X.K) :
    JE X c (.Subscript e1 e2 pos) (fun δ M => bnd (f1 δ M) fun d1 M1 => bnd (f2 δ M1) fun d2 M2 => po m M2 (pIx [d1, d2] M2)) :=
  je_op2 (fun a b => pe_ix (hK ▸ ix_seq) a b hs) ok_ix h1 h2
theorem je_un {o : UnaryOp} {r : V → Hp → VK → Prop} {p : List D → Store → Option PO} {m : Bool} (ho : UnR X (unaryOp o) r) (ok : Ok1 c.g r p) (h1 : JE X c e1 f1) :
    JE X c (.UnaryOp o e1 pos) (fun δ M => bnd (f1 δ M) fun d1 M1 => po m M1 (p [d1] M1)) := je_imp (pe_un ho h1) fun W δ M σ H Q q r =>
  (Res.step (R := RD c.g) (f := f1) q r).mono fun x H1 ⟨W1, d1, M1, ex1, p1, rd1, r1⟩ => ok W1 H1 M1 d1 x Q p1.sr rd1 (po_pres p1.sr r1)

/-! ### rows of expressions -/
theorem ja_imp {t : TA} (h : PA X es t) (hi : ∀ W δ M σ H Q, Pre c.g c.cx W H δ σ M → Res c.g c.Wx (RL c.g) W H σ Q (fs δ M) → t σ H Q) : JA X c es fs :=
  PA.imp h fun σ H Q ⟨W, δ, M, p, r⟩ => hi W δ M σ H Q p r
theorem ja_nil : JA X c [] (fun _ M => rok [] M) := ja_imp pa_nil fun W δ M σ H Q p r => r.done p.sr .nil
theorem ja_cons (h1 : JE X c e f) (h2 : JA X c es fs) (hs : starEach (e :: es) X.env = (false, eval e X.env) :: starEach es X.env) :
    JA X c (e :: es) (fun δ M => bnd (f δ M) fun d M1 => bnd (fs δ M1) fun ds M2 => rok (d :: ds) M2) := ja_imp (pa_cons h1 h2 hs) fun W δ M σ H Q q r =>
  (Res.step (R := RD c.g) (f := f) q r).mono fun x H1 ⟨W1, d1, M1, ex1, p1, rd1, r1⟩ => (Res.step (R := RL c.g) (f := fs) p1 r1).mono fun y H2 ⟨W2, d2, M2, ex2, p2, rd2, r2⟩ =>
    r2.done p2.sr ((rd1.up ex2) |>.cons' rd2)
theorem je_tup (h : JA X c es fs) {k : Nat} : JE X c (.Tuple es k pos) (fun δ M => bnd (fs δ M) fun ds M1 => if ds.length ≤ line then rok (.tup ds) M1 else none) := je_imp (pe_tup h) fun W δ M σ H Q q r =>
  (Res.step (R := RL c.g) (f := fs) q r).mono fun x H1 ⟨W1, ds, M1, ex1, p1, rd1, r1⟩ => by
    split at r1
    · rename_i hl
      exact ⟨by rw [rd1.length, sizeLine_line]; exact hl, fun p hp => PRes.tup (M := M1) (fun W' H' v a b d => r1 W' H' v a b d) p1.sr hp rd1⟩
    · exact r1.elim
theorem je_lst {m : Bool} (h : JA X c es fs) : JE X c (.List es pos) (fun δ M => bnd (fs δ M) fun ds M1 => if ds.length ≤ line then some (mk m ds M1) else none) := je_imp (pe_lst h) fun W δ M σ H Q q r =>
  (Res.step (R := RL c.g) (f := fs) q r).mono fun x H1 ⟨W1, ds, M1, ex1, p1, rd1, r1⟩ => by
    split at r1
    · rename_i hl
      exact ⟨by rw [rd1.length, sizeLine_line]; exact hl, fun p hp => mk_res p1.sr r1 hp rd1⟩
    · exact r1.elim

/-! ### truth, and, or, not -/
/-- the test of a value -/
def tst (f : Sl → Store → Rs D) : Sl → Store → Rs Bool := fun δ M => bnd (f δ M) fun d M1 => match truth M1 d with
  | some b => rok b M1
  | none => none
theorem jt_imp {t : TT} {fb : Sl → Store → Rs Bool} (h : PT X e t) (hi : ∀ W δ M σ H Q, Pre c.g c.cx W H δ σ M → Res c.g c.Wx RB W H σ Q (fb δ M) → t σ H Q) : JT X c e fb :=
  PT.imp h fun σ H Q ⟨W, δ, M, p, r⟩ => hi W δ M σ H Q p r
theorem jw_imp {t : TT} {fb : Sl → Store → Rs Bool} (h : PW X e t) (hi : ∀ W δ M σ H Q, Pre c.g c.cx W H δ σ M → Res c.g c.Wx RB W H σ Q (fb δ M) → t σ H Q) : JW X c e fb :=
  PW.imp h fun σ H Q ⟨W, δ, M, p, r⟩ => hi W δ M σ H Q p r
theorem je_and {b : Expr} {rest : List Expr} (hK : c.g.K = X.K) (h1 : JE X c e f1) (h2 : JE X c (.BoolOp .And (b :: rest) pos) f2) :
    JE X c (.BoolOp .And (e :: b :: rest) pos) (fun δ M => bnd (f1 δ M) fun d M1 => match truth M1 d with
      | some true => f2 δ M1
      | some false => rok d M1
      | none => none) := je_imp (pe_andT h1 h2) fun W δ M σ H Q q r =>
  (Res.step (R := RD c.g) (f := f1) q r).mono fun x H1 ⟨W1, d1, M1, ex1, p1, rd1, r1⟩ => by
    split at r1
    · rename_i ht
      exact ⟨true, hK ▸ truth_ok p1.sr rd1 ht, iteT ⟨W1, δ, M1, p1, r1⟩⟩
    · rename_i ht
      exact ⟨false, hK ▸ truth_ok p1.sr rd1 ht, iteF (r1.done p1.sr rd1)⟩
    · exact r1.elim
theorem je_or {b : Expr} {rest : List Expr} (hK : c.g.K = X.K) (h1 : JE X c e f1) (h2 : JE X c (.BoolOp .Or (b :: rest) pos) f2) :
    JE X c (.BoolOp .Or (e :: b :: rest) pos) (fun δ M => bnd (f1 δ M) fun d M1 => match truth M1 d with
      | some true => rok d M1
      | some false => f2 δ M1
      | none => none) := je_imp (pe_orT h1 h2) fun W δ M σ H Q q r =>
  (Res.step (R := RD c.g) (f := f1) q r).mono fun x H1 ⟨W1, d1, M1, ex1, p1, rd1, r1⟩ => by
    split at r1
    · rename_i ht
      exact ⟨true, hK ▸ truth_ok p1.sr rd1 ht, iteT (r1.done p1.sr rd1)⟩
    · rename_i ht
      exact ⟨false, hK ▸ truth_ok p1.sr rd1 ht, iteF ⟨W1, δ, M1, p1, r1⟩⟩
    · exact r1.elim
theorem je_not (hK : c.g.K = X.K) (h1 : JE X c e f1) : JE X c (.UnaryOp .Not e pos) (fun δ M => bnd (f1 δ M) fun d M1 => match truth M1 d with
    | some b => rok (.bl (!b)) M1
    | none => none) := je_imp (pe_notT h1) fun W δ M σ H Q q r =>
  (Res.step (R := RD c.g) (f := f1) q r).mono fun x H1 ⟨W1, d1, M1, ex1, p1, rd1, r1⟩ => by
    split at r1
    · rename_i b ht
      exact ⟨b, hK ▸ truth_ok p1.sr rd1 ht, r1.done p1.sr rfl⟩
    · exact r1.elim
/-- a test by its value's truth -/
theorem jt_truth (hK : c.g.K = X.K) (h1 : JE X c e f1) (he : ∀ whole, isTrue e X.env whole = (do let v ← whole; standAt e.pos; holding [v] (truthy v))) : JT X c e (tst f1) := jt_imp (pt_truth h1 he) fun W δ M σ H Q q r =>
  (Res.step (R := RD c.g) (f := f1) q r).mono fun x H1 ⟨W1, d1, M1, ex1, p1, rd1, r1⟩ => by
    split at r1
    · rename_i b ht
      exact ⟨b, hK ▸ truth_ok p1.sr rd1 ht, r1.done p1.sr rfl⟩
    · exact r1.elim
/-- a comparison as a test -/
theorem jt_cmp {o : CmpOp} {r : R2} {p : List D → Store → Option PO} (ho : OpR X (compareOp o) r) (hm : behindInMarks o e2 = false) (ok : Ok2 c.g r p) (hb : ∀ d1 d2 M, (∃ k, p [d1, d2] M = some (.v (.bl k) M)) ∨ p [d1, d2] M = none) (h1 : JE X c e1 f1) (h2 : JE X c e2 f2) :
    JT X c (.Compare e1 [o] [e2] pos) (tst (fun δ M => bnd (f1 δ M) fun d1 M1 => bnd (f2 δ M1) fun d2 M2 => po false M2 (p [d1, d2] M2))) := jt_imp (pt_cmpR ho h1 h2 hm) fun W δ M σ H Q q r => by
  unfold tst at r
  rw [bnd_assoc] at r
  refine (Res.step (R := RD c.g) (f := f1) q r).mono fun x H1 ⟨W1, d1, M1, ex1, p1, rd1, r1⟩ => ?_
  rw [bnd_assoc] at r1
  refine (Res.step (R := RD c.g) (f := f2) p1 r1).mono fun y H2 ⟨W2, d2, M2, ex2, p2, rd2, r2⟩ => ?_
  refine ok W2 H2 M2 d1 d2 x y _ p2.sr (rd1.up ex2) rd2 ?_
  rcases hb d1 d2 M2 with ⟨k, hk⟩ | hk
  · rw [hk] at r2 ⊢
    intro W3 H3 v ex3 s3 rv
    cases rv
    exact ⟨k, rfl, r2 W3 H3 k ex3 s3 rfl⟩
  · rw [hk] at r2
    exact r2.elim
theorem jt_not (h1 : JT X c e (tst f1)) : JT X c (.UnaryOp .Not e pos) (tst (fun δ M => bnd (f1 δ M) fun d M1 => match truth M1 d with
    | some b => rok (.bl (!b)) M1
    | none => none)) := jt_imp (pt_not h1) fun W δ M σ H Q q r => by
  refine ⟨W, δ, M, q, ?_⟩
  unfold tst at r ⊢
  rw [bnd_assoc] at r
  cases e : f1 δ M with
  | none => rw [e] at r; exact r
  | some o =>
    rw [e] at r
    cases o with
    | exc x M1 => exact r
    | ok d M1 =>
      simp only [bnd_ok] at r ⊢
      cases ht : truth M1 d with
      | none => rw [ht] at r; exact r
      | some b =>
        rw [ht] at r
        dsimp only at r ⊢
        simp only [bnd_ok, truth_bl] at r
        intro W1 H1 b1 ex1 s1 e1
        cases e1
        exact r W1 H1 (!b) ex1 s1 rfl
theorem jw_and1 (h : JT X c e (tst f)) : JW X c (.BoolOp .And [e] pos) (tst f) := pw_and1 h
theorem jw_or1 (h : JT X c e (tst f)) : JW X c (.BoolOp .Or [e] pos) (tst f) := pw_or1 h
theorem jw_and {b : Expr} {rest : List Expr} (h1 : JT X c e (tst f1)) (h2 : JW X c (.BoolOp .And (b :: rest) pos) (tst f2)) :
    JW X c (.BoolOp .And (e :: b :: rest) pos) (tst (fun δ M => bnd (f1 δ M) fun d M1 => match truth M1 d with
      | some true => f2 δ M1
      | some false => rok d M1
      | none => none)) := jw_imp (pw_and h1 h2) fun W δ M σ H Q q r => by
  refine ⟨W, δ, M, q, ?_⟩
  unfold tst at r ⊢
  rw [bnd_assoc] at r
  cases e : f1 δ M with
  | none => rw [e] at r; exact r
  | some o =>
    rw [e] at r
    cases o with
    | exc x M1 => exact r
    | ok d M1 =>
      simp only [bnd_ok] at r ⊢
      cases ht : truth M1 d with
      | none => rw [ht] at r; exact r
      | some b =>
        rw [ht] at r
        cases b with
        | true => exact fun W1 H1 b1 ex1 s1 e1 => by cases e1; exact iteT ⟨W1, δ, M1, q.up ex1 s1, Res.up r ex1⟩
        | false =>
          simp only [bnd_ok, ht] at r
          exact fun W1 H1 b1 ex1 s1 e1 => by cases e1; exact iteF (r W1 H1 false ex1 s1 rfl)
theorem jw_or {b : Expr} {rest : List Expr} (h1 : JT X c e (tst f1)) (h2 : JW X c (.BoolOp .Or (b :: rest) pos) (tst f2)) :
    JW X c (.BoolOp .Or (e :: b :: rest) pos) (tst (fun δ M => bnd (f1 δ M) fun d M1 => match truth M1 d with
      | some true => rok d M1
      | some false => f2 δ M1
      | none => none)) := jw_imp (pw_or h1 h2) fun W δ M σ H Q q r => by
  refine ⟨W, δ, M, q, ?_⟩
  unfold tst at r ⊢
  rw [bnd_assoc] at r
  cases e : f1 δ M with
  | none => rw [e] at r; exact r
  | some o =>
    rw [e] at r
    cases o with
    | exc x M1 => exact r
    | ok d M1 =>
      simp only [bnd_ok] at r ⊢
      cases ht : truth M1 d with
      | none => rw [ht] at r; exact r
      | some b =>
        rw [ht] at r
        cases b with
        | false => exact fun W1 H1 b1 ex1 s1 e1 => by cases e1; exact iteF ⟨W1, δ, M1, q.up ex1 s1, Res.up r ex1⟩
        | true =>
          simp only [bnd_ok, ht] at r
          exact fun W1 H1 b1 ex1 s1 e1 => by cases e1; exact iteT (r W1 H1 true ex1 s1 rfl)
theorem je_ite {e0 : Expr} {f0 : Sl → Store → Rs D} (h0 : JT X c e0 (tst f0)) (h1 : JE X c e1 f1) (h2 : JE X c e2 f2) :
    JE X c (.IfExp e0 e1 e2 pos) (fun δ M => bnd (f0 δ M) fun d M1 => match truth M1 d with
      | some true => f1 δ M1
      | some false => f2 δ M1
      | none => none) := je_imp (pe_ifExp h0 h1 h2) fun W δ M σ H Q q r => by
  refine ⟨W, δ, M, q, ?_⟩
  unfold tst
  cases e : f0 δ M with
  | none => rw [e] at r; exact r
  | some o =>
    rw [e] at r
    cases o with
    | exc x M1 => exact r
    | ok d M1 =>
      simp only [bnd_ok] at r ⊢
      cases ht : truth M1 d with
      | none => rw [ht] at r; exact r
      | some b =>
        rw [ht] at r
        cases b with
        | true => exact fun W1 H1 b1 ex1 s1 e1 => by cases e1; exact iteT ⟨W1, δ, M1, q.up ex1 s1, Res.up r ex1⟩
        | false => exact fun W1 H1 b1 ex1 s1 e1 => by cases e1; exact iteF ⟨W1, δ, M1, q.up ex1 s1, Res.up r ex1⟩
end
end Mo
/-! Mo5: calls, methods, fields, slices. -/
namespace Mo
open PySem PySem.Spec L2
open PyProof.Rows hiding St

/-- what a contract wishes -/
def ResC (g : Gd) (W : Wd) (H : Hp) (Q : VK) (E : XK) : Rs D → Prop
  | some (.ok d M) => ∀ W' H' v, Ext g.K W H W' H' → SR g W' H' M → Rep g.K W' H' d v → Q v H'
  | some (.exc x M) => ∀ W' H' c dd, Ext g.K W H W' H' → SR g W' H' M → RepX g W' H' x c dd → E c dd H'
  | none => False
theorem Res.toC {g : Gd} {Wx : WX} {W : Wd} {H : Hp} {σ : St} {Q : VK} {r : Rs D} (h : Res g Wx (RD g) W H σ Q r) : ResC g W H Q (fun c dd H' => Wx c dd σ H') r := by
  cases r with
  | none => exact h
  | some o => cases o <;> exact h
def spC (g : Gd) (n : Nat) (C : Ctr) : Sp := fun vs H Q E => ∃ W M ds, ds.length = n ∧ SR g W H M ∧ Reps g.K W H ds vs ∧ ResC g W H Q E (C ds M)
/-- a contract with its number of arguments -/
def arC (n : Nat) (C : Ctr) : Ctr := fun ds M => if ds.length = n then C ds M else none
theorem sp_arC {g : Gd} {n : Nat} {C : Ctr} {W : Wd} {H : Hp} {M : Store} {ds : List D} {vs : List V} {Q : VK} {E : XK} (s : SR g W H M) (r : Reps g.K W H ds vs) (h : ResC g W H Q E (arC n C ds M)) : spC g n C vs H Q E := by
  unfold arC at h
  split at h
  · exact ⟨W, M, ds, by assumption, s, r, h⟩
  · exact h.elim

/-- a def of the module -/
structure FnKn (P : Program) (w : World) (K : PySem.W.Frag) (mg : Str → Option Value) (base : Heap) (g : Gd) (x : Str) (n k : Nat) (C : Ctr) : Prop where
  ex : ∃ f fd ps, mg x = some (.ref f) ∧ PySem.W.keepIn K (.ref f) = true ∧ Binds K fd ps [] ∧ FnOk P w K mg base (L2.CX P w) k f fd ps (spC g n C)
/-- a method of the class c -/
structure MtKn (P : Program) (w : World) (K : PySem.W.Frag) (mg : Str → Option Value) (base : Heap) (g : Gd) (c m n k : Nat) (C : Ctr) : Prop where
  ex : ∃ f fd ps, Cls K (g.ca c) ∧ Meth K (g.ca c) (nm m) f ∧ Binds K fd ps [] ∧ FnOk P w K mg base (L2.CX P w) k f fd ps (spC g n C)
structure PrKn (P : Program) (w : World) (K : PySem.W.Frag) (mg : Str → Option Value) (base : Heap) (g : Gd) (c m k : Nat) (C : Ctr) : Prop where
  ex : ∃ p f fd ps, Cls K (g.ca c) ∧ PropOf K (g.ca c) (nm m) p f ∧ Binds K fd ps [] ∧ FnOk P w K mg base (L2.CX P w) k f fd ps (spC g 1 C)
structure MkKn (P : Program) (w : World) (K : PySem.W.Frag) (mg : Str → Option Value) (base : Heap) (g : Gd) (x : Str) (c n k : Nat) (C : Ctr) : Prop where
  ex : ∃ f fd ps, mg x = some (.ref (g.ca c)) ∧ Cls K (g.ca c) ∧ Mk K (g.ca c) f ∧ Binds K fd ps [] ∧ FnOk P w K mg base (L2.CX P w) k f fd ps (spC g n C)

section
variable {X : Cx} {c : Cf} {e e1 e2 e3 o : Expr} {es : List Expr} {f f1 f2 f3 : Sl → Store → Rs D} {fs : Sl → Store → Rs (List D)} {pos p apos : Pos} {x : Str} {n k m : Nat} {C : Ctr}

theorem je_call (F : FnKn X.prog X.w X.K X.mg X.base c.g x n k C) (hr : Room k X.A) (hg : Gl X x) (tk : Takes X c.Wx) (ha : JA X c (e :: es) fs)
    (hdb : (x == ("__debug__" : Str)) = false) (he : starEach (e :: es) X.env = (false, eval e X.env) :: starEach es X.env) (hpl : (backTo pos (starEach es X.env)).any (·.1) = false) :
    JE X c (.Call (.Name x p) (e :: es) [] pos) (fun δ M => bnd (fs δ M) fun ds M1 => arC n C ds M1) := by
  obtain ⟨g, fd, ps, h1, h2, h3, h4⟩ := F.ex
  refine je_imp (pe_callSD (E := WE c.Wx) (dvs := []) h4 hr hg h1 h2 h3 .nil (fun σ => passAt tk σ) ha hdb he hpl) fun W δ M σ H Q q r => ?_
  refine (Res.step (R := RL c.g) (f := fs) q r).mono fun vs H1 ⟨W1, ds, M1, ex1, p1, rd1, r1⟩ => ?_
  rw [List.append_nil]
  exact sp_arC p1.sr rd1 r1.toC
theorem je_call0 (F : FnKn X.prog X.w X.K X.mg X.base c.g x n k C) (hr : Room k X.A) (hg : Gl X x) (tk : Takes X c.Wx) (hdb : (x == ("__debug__" : Str)) = false) :
    JE X c (.Call (.Name x p) [] [] pos) (fun δ M => arC n C [] M) := by
  obtain ⟨g, fd, ps, h1, h2, h3, h4⟩ := F.ex
  refine ⟨fun pins s σ H Q I ⟨W, δ, M, q, r⟩ => ?_⟩
  refine wpAny_Call_Name_kw (ld_glob I hg h1 ?_ hdb)
  exact PySem.W.callWith_K0 I.kIn h2 (run_fnSD (E := WE c.Wx) (us := []) (vs := []) (dvs := []) h4 hr h3 .nil (passAt tk σ) I .nil (sp_arC q.sr .nil (Res.toC r)))
/-- o.m(e, ..) -/
theorem je_mcall {cl : Nat} (F : MtKn X.prog X.w X.K X.mg X.base c.g cl m n k C) (hr : Room k X.A) (tk : Takes X c.Wx) (ho : JE X c o f) (ha : JA X c (e :: es) fs) {pl : Sem Bool}
    (hst : starEach (e :: es) X.env = (false, eval e X.env) :: starEach es X.env) (hpl : (backTo pos (starEach es X.env)).any (·.1) = false)
    (ht : eval (.Call (.Attribute o (nm m) apos) (e :: es) [] pos) X.env = (do
      let ov ← eval o X.env
      standAt apos.atName
      let (f, first) ← holding [ov] (getMethod ov (nm m) pl)
      callWith pos f first (backTo pos (starEach (e :: es) X.env)) (backToKw pos (keywordEach [] X.env)))) :
    JE X c (.Call (.Attribute o (nm m) apos) (e :: es) [] pos) (fun δ M => bnd (f δ M) fun d M1 => match d with
      | .oid i => match M1[i]? with
        | some (.ins c' fl) => if c' = cl ∧ fl.lookup m = none then bnd (fs δ M1) fun ds M2 => arC n C (.oid i :: ds) M2 else none
        | _ => none
      | _ => none) := by
  obtain ⟨fa, fd, ps, h0, h1, h3, h4⟩ := F.ex
  refine ⟨fun pins s σ H Q I ⟨W, δ, M, q, r⟩ => ?_⟩
  refine PySem.W.methodCall_KW (pl := pl) (thn (ho.run pins s σ H _ I (Res.step (R := RD c.g) (f := f) q r)) fun u s1 ⟨x, H1, I1, rx, W1, d1, M1, ex1, p1, rd1, r1⟩ => ?_) ht
  split at r1
  · rename_i i
    split at r1
    · rename_i c' fl hi
      split at r1
      · rename_i hc
        obtain ⟨rfl, hl⟩ := hc
        obtain ⟨a, ex, ea, dx, fv, hv, rf⟩ := ob_of p1.sr rd1 hi
        subst ex
        obtain rfl : u = Value.ref a := rx
        refine getmeth_ok I1 hv h0 h1 (rf.none hl) ?_
        refine PySem.W.callWith_K (first := [.ref a]) (h₀ := X.base) I.ok.mod.kin h1.kp (thn (ha.run pos pins s1 σ H1 _ I1 (Res.step (R := RL c.g) (f := fs) p1 r1)) fun us s2 ⟨vs, H2, I2, rv, W2, ds, M2, ex2, p2, rd2, r2⟩ => ⟨I2.kIn, ?_⟩) hst hpl
        exact run_fnSD (E := WE c.Wx) (us := .ref a :: us) (vs := .ref a :: vs) (dvs := []) h4 hr h3 .nil (passAt tk σ) I2 (.cons rfl rv) (by rw [List.append_nil]; exact sp_arC p2.sr ((rd1.up ex2).cons' rd2) r2.toC)
      · exact r1.elim
    · exact r1.elim
  · exact r1.elim
theorem je_mcall0 {cl : Nat} (F : MtKn X.prog X.w X.K X.mg X.base c.g cl m n k C) (hr : Room k X.A) (tk : Takes X c.Wx) (ho : JE X c o f) {pl : Sem Bool}
    (ht : eval (.Call (.Attribute o (nm m) apos) [] [] pos) X.env = (do
      let ov ← eval o X.env
      standAt apos.atName
      let (f, first) ← holding [ov] (getMethod ov (nm m) pl)
      callWith pos f first (backTo pos (starEach [] X.env)) (backToKw pos (keywordEach [] X.env)))) :
    JE X c (.Call (.Attribute o (nm m) apos) [] [] pos) (fun δ M => bnd (f δ M) fun d M1 => match d with
      | .oid i => match M1[i]? with
        | some (.ins c' fl) => if c' = cl ∧ fl.lookup m = none then bnd (rok [] M1) fun ds M2 => arC n C (.oid i :: ds) M2 else none
        | _ => none
      | _ => none) := by
  obtain ⟨fa, fd, ps, h0, h1, h3, h4⟩ := F.ex
  refine ⟨fun pins s σ H Q I ⟨W, δ, M, q, r⟩ => ?_⟩
  refine PySem.W.methodCall_KW (pl := pl) (thn (ho.run pins s σ H _ I (Res.step (R := RD c.g) (f := f) q r)) fun u s1 ⟨x, H1, I1, rx, W1, d1, M1, ex1, p1, rd1, r1⟩ => ?_) ht
  split at r1
  · rename_i i
    split at r1
    · rename_i c' fl hi
      split at r1
      · rename_i hc
        obtain ⟨rfl, hl⟩ := hc
        obtain ⟨a, ex, ea, dx, fv, hv, rf⟩ := ob_of p1.sr rd1 hi
        subst ex
        obtain rfl : u = Value.ref a := rx
        refine getmeth_ok I1 hv h0 h1 (rf.none hl) ?_
        exact PySem.W.callWith_K0 (first := [.ref a]) I1.kIn h1.kp (run_fnSD (E := WE c.Wx) (us := [.ref a]) (vs := [.ref a]) (dvs := []) h4 hr h3 .nil (passAt tk σ) I1 (.cons rfl .nil) (by rw [List.append_nil]; exact sp_arC p1.sr (.cons rd1 .nil) r1.toC))
      · exact r1.elim
    · exact r1.elim
  · exact r1.elim
/-- o.f, a property -/
theorem je_prop {cl : Nat} (F : PrKn X.prog X.w X.K X.mg X.base c.g cl m k C) (hr : Room (k + 1) X.A) (ho : JE X c o f) (hab : attributeBase o (nm m) X.env (eval o X.env) = eval o X.env) :
    JE X c (.Attribute o (nm m) pos) (fun δ M => bnd (f δ M) fun d M1 => match d with
      | .oid i => match M1[i]? with
        | some (.ins c' _) => if c' = cl then nox (arC 1 C [.oid i] M1) else none
        | _ => none
      | _ => none) := by
  obtain ⟨pa, fa, fd, ps, h0, h1, h3, h4⟩ := F.ex
  refine je_imp (pe_prop (E := E0) (dvs := []) ho h0 h1 h4 hr h3 .nil passL hab) fun W δ M σ H Q q r => ?_
  refine (Res.step (R := RD c.g) (f := f) q r).mono fun x H1 ⟨W1, d1, M1, ex1, p1, rd1, r1⟩ => ?_
  split at r1
  · rename_i i
    split at r1
    · rename_i c' fl hi
      split at r1
      · rename_i hc
        subst hc
        obtain ⟨a, ex, ea, dx, fv, hv, rf⟩ := ob_of p1.sr rd1 hi
        refine ⟨a, dx, fv, ex, hv, sp_arC p1.sr (.cons (ex ▸ rd1) .nil) ?_⟩
        cases e : arC 1 C [.oid i] M1 with
        | none => rw [e] at r1; exact r1
        | some z =>
          rw [e] at r1
          cases z with
          | ok y M2 => exact r1
          | exc y M2 => exact r1.elim
      · exact r1.elim
    · exact r1.elim
  · exact r1.elim
/-- C(e, ..) of an own class -/
theorem run_makeSD {CX : CXT} {sp : Sp} {E : XK} {fI Ca : Addr} {fd : FuncData} {ps : List Str} {pins : List (Addr × Obj)} {σ : St} {H : Hp} {s : Shared} {Q : VK} {us : List Value} {vs : List V} (M : Mk X.K Ca fI) (F : FnOk X.prog X.w X.K X.mg X.base CX k fI fd ps sp) (hr : Room (k + 1) X.A) (hb : Binds X.K fd ps [])
    (hx : ∀ (s : Shared) (H : Hp) (e : Value) (s' : Shared), Inv X pins σ H s → CX X.stack H s E e s' → X.xe e s') (I : Inv X pins σ H s) (r : Vals vs us)
    (h : ∀ x dx, H x = none → H dx = none → dx ≠ x → sp (.ref x :: vs) (upd (upd H dx (.own x)) x (.ins Ca dx [])) (fun v H2 => v = .non ∧ Q (.ref x) H2) E) :
    wpAny (model X.prog X.w) X.A (call (.ref Ca) us) (EP X pins σ Q) X.xe s := by
  have hq := h (s.heap.objs.size + 1) s.heap.objs.size (I.hok.fresh (Nat.le_succ _)) (I.hok.fresh (Nat.le_refl _)) (Nat.ne_of_lt (Nat.lt_succ_self _))
  have I2 := Inv.made (C := Ca) I
  have r2 : Vals (V.ref (s.heap.objs.size + 1) :: vs) (Value.ref (s.heap.objs.size + 1) :: us) := .cons rfl r
  have hl : (Value.ref (s.heap.objs.size + 1) :: us ++ []).length = ps.length := by
    have e := r2.length
    rw [F.len _ _ _ _ hq] at e
    rw [List.append_nil]
    exact e.symm
  have hb' := hb _ (Value.ref (s.heap.objs.size + 1) :: us) I2.kIn hl
  rw [List.append_nil] at hb'
  refine wpAny_call (make_map (f := fI) I.kIn M.makes M.init (beq_iff_eq.mp M.fn) (codeAny_mono (F.run _ X.stack _ _ ⟨Value.ref (s.heap.objs.size + 1) :: us, []⟩ (Value.ref (s.heap.objs.size + 1) :: us) _ _ E (hr.make Ca us [])
    (I2.env0.make Ca us []) hb' r2 hq) fun r s' hq' => ?_))
  cases r with
  | error e => exact hx _ _ e s' I2 hq'
  | ok fl =>
    cases fl with
    | ret u =>
      obtain ⟨v, H', I3, rv, ev, q3⟩ := I2.after hq'
      subst ev
      exact ⟨rv, ⟨V.ref (s.heap.objs.size + 1), H', I3, rfl, q3⟩⟩
    | next => exact False.elim hq'
    | brk => exact False.elim hq'
    | cont => exact False.elim hq'
theorem make_res {cl : Nat} {g : Gd} {Wx : WX} {W : Wd} {H : Hp} {σ : St} {Q : VK} {M : Store} {ds : List D} {vs : List V} (s : SR g W H M) (r : Reps g.K W H ds vs)
    (h : Res g Wx (RD g) W H σ Q (bnd (arC n C (.oid M.length :: ds) (M ++ [.ins cl []])) fun d M2 => match d with
      | .non => rok (.oid M.length) M2
      | _ => none)) : ∀ x dx, H x = none → H dx = none → dx ≠ x → spC g n C (.ref x :: vs) (upd (upd H dx (.own x)) x (.ins (g.ca cl) dx [])) (fun v H2 => v = .non ∧ Q (.ref x) H2) (WE Wx σ) := by
  intro x dx hx hd hne
  obtain ⟨e1, s1⟩ := s.beside (o := .own x) hd
  have hx1 : upd H dx (.own x) x = none := by rw [upd_ne (Ne.symm hne)]; exact hx
  obtain ⟨W', eW, e2, s2⟩ := s1.push (o := .ins (g.ca cl) dx []) (b := .ins cl []) hx1 fun W2 ex2 => ⟨dx, [], upd_same, rfl⟩
  have e := e1.trans e2
  have ro : Rep g.K W' (upd (upd H dx (.own x)) x (.ins (g.ca cl) dx [])) (.oid M.length) (.ref x) := by
    refine ⟨x, rfl, ?_⟩
    rw [eW]
    show (W.ad ++ [x])[M.length]? = some x
    rw [← s.len, List.getElem?_append_right (Nat.le_refl _)]
    simp
  refine sp_arC s2 (ro.cons' (r.up e)) ?_
  have h' := h.up e
  cases q : arC n C (.oid M.length :: ds) (M ++ [.ins cl []]) with
  | none => rw [q] at h'; exact h'
  | some z =>
    rw [q] at h'
    cases z with
    | exc y M2 => exact h'
    | ok y M2 =>
      intro W3 H3 v ex3 s3 rv
      cases y with
      | non =>
        cases rv
        exact ⟨rfl, h' W3 H3 _ ex3 s3 (ro.up ex3)⟩
      | _ => exact h'.elim
theorem je_make {cl : Nat} (F : MkKn X.prog X.w X.K X.mg X.base c.g x cl n k C) (hr : Room (k + 1) X.A) (hg : Gl X x) (tk : Takes X c.Wx) (ha : JA X c (e :: es) fs)
    (hdb : (x == ("__debug__" : Str)) = false) (he : starEach (e :: es) X.env = (false, eval e X.env) :: starEach es X.env) (hpl : (backTo pos (starEach es X.env)).any (·.1) = false) :
    JE X c (.Call (.Name x p) (e :: es) [] pos) (fun δ M => bnd (fs δ M) fun ds M1 => bnd (arC n C (.oid M1.length :: ds) (M1 ++ [.ins cl []])) fun d M2 => match d with
      | .non => rok (.oid M1.length) M2
      | _ => none) := by
  obtain ⟨fa, fd, ps, h1, h2, h2', h3, h4⟩ := F.ex
  refine ⟨fun pins s σ H Q I ⟨W, δ, M, q, r⟩ => ?_⟩
  refine wpAny_Call_Name_kw (ld_glob I hg h1 ?_ hdb)
  refine PySem.W.callWith_K (h₀ := X.base) I.ok.mod.kin h2'.kp (thn (ha.run pos pins s σ H _ I (Res.step (R := RL c.g) (f := fs) q r)) fun us s1 ⟨vs, H1, I1, rv, W1, ds, M1, ex1, p1, rd1, r1⟩ => ⟨I1.kIn, ?_⟩) he hpl
  exact run_makeSD (E := WE c.Wx σ) h2' h4 hr h3 (fun s H e s' I2 cx => passAt tk σ pins H s e s' I2 cx) I1 rv (make_res p1.sr rd1 r1)
theorem je_make0 {cl : Nat} (F : MkKn X.prog X.w X.K X.mg X.base c.g x cl n k C) (hr : Room (k + 1) X.A) (hg : Gl X x) (tk : Takes X c.Wx) (hdb : (x == ("__debug__" : Str)) = false) :
    JE X c (.Call (.Name x p) [] [] pos) (fun δ M => bnd (arC n C [.oid M.length] (M ++ [.ins cl []])) fun d M2 => match d with
      | .non => rok (.oid M.length) M2
      | _ => none) := by
  obtain ⟨fa, fd, ps, h1, h2, h2', h3, h4⟩ := F.ex
  refine ⟨fun pins s σ H Q I ⟨W, δ, M, q, r⟩ => ?_⟩
  refine wpAny_Call_Name_kw (ld_glob I hg h1 ?_ hdb)
  exact PySem.W.callWith_K0 I.kIn h2'.kp (run_makeSD (E := WE c.Wx σ) (us := []) h2' h4 hr h3 (fun s H e s' I2 cx => passAt tk σ pins H s e s' I2 cx) I .nil (make_res q.sr .nil r))

/-! ### built-ins -/
theorem je_callB {id : String} {r : List V → Hp → VK → Prop} {p' : List D → Store → Option PO} {m : Bool} (hc : CallR X (.builtin id) r) (ok : OkC c.g r p') (hg : Gl X x) (hm : X.mg x = none) (hv : bootBuiltins x = some (.builtin id)) (ha : JA X c (e :: es) fs) (hn : x ≠ "__name__") (hdb : (x == ("__debug__" : Str)) = false)
    (he : starEach (e :: es) X.env = (false, eval e X.env) :: starEach es X.env) (hpl : (backTo pos (starEach es X.env)).any (·.1) = false) :
    JE X c (.Call (.Name x p) (e :: es) [] pos) (fun δ M => bnd (fs δ M) fun ds M1 => po m M1 (p' ds M1)) := je_imp (pe_callB hc hg hm hv ha hn hdb he hpl) fun W δ M σ H Q q r =>
  (Res.step (R := RL c.g) (f := fs) q r).mono fun vs H1 ⟨W1, ds, M1, ex1, p1, rd1, r1⟩ => ok W1 H1 M1 ds vs Q p1.sr rd1 (po_pres p1.sr r1)
theorem je_callTy {T : String} {r : List V → Hp → VK → Prop} {p' : List D → Store → Option PO} {m : Bool} (hc : CallR X (.type T) r) (ok : OkC c.g r p') (hg : Gl X x) (hm : X.mg x = none) (hv : bootBuiltins x = some (.type T)) (ha : JA X c (e :: es) fs) (hn : x ≠ "__name__") (hdb : (x == ("__debug__" : Str)) = false)
    (he : starEach (e :: es) X.env = (false, eval e X.env) :: starEach es X.env) (hpl : (backTo pos (starEach es X.env)).any (·.1) = false) :
    JE X c (.Call (.Name x p) (e :: es) [] pos) (fun δ M => bnd (fs δ M) fun ds M1 => po m M1 (p' ds M1)) := je_imp (pe_callTy hc hg hm hv ha hn hdb he hpl) fun W δ M σ H Q q r =>
  (Res.step (R := RL c.g) (f := fs) q r).mono fun vs H1 ⟨W1, ds, M1, ex1, p1, rd1, r1⟩ => ok W1 H1 M1 ds vs Q p1.sr rd1 (po_pres p1.sr r1)
/-- isinstance(e, T) -/
theorem je_isinst {t : Ty} {m : Bool} (hK : c.g.K = X.K) (hg : Gl X "isinstance") (hm : X.mg "isinstance" = none) (h1 : JE X c e1 f1) (h2 : PE X e2 (tC (.ty (tyName t))))
    (he : starEach [e1, e2] X.env = (false, eval e1 X.env) :: starEach [e2] X.env) (he2 : starEach [e2] X.env = (false, eval e2 X.env) :: starEach [] X.env) (hpl : (backTo pos (starEach [e2] X.env)).any (·.1) = false) :
    JE X c (.Call (.Name "isinstance" p) [e1, e2] [] pos) (fun δ M => bnd (f1 δ M) fun d M1 => po m M1 (pIsinst t [d] M1)) := je_imp (pe_callB call_isi hg hm (by decide +kernel) (pa_cons h1 (pa_cons h2 pa_nil he2) he) (by decide) (by decide) he hpl) fun W δ M σ H Q q r =>
  (Res.step (R := RD c.g) (f := f1) q r).mono fun x H1 ⟨W1, d1, M1, ex1, p1, rd1, r1⟩ => hK ▸ ok_isinst t W1 H1 M1 d1 x Q p1.sr rd1 (po_pres p1.sr r1)

/-! ### slices -/
theorem je_sl00 {m : Bool} {p2 : Pos} (hK : c.g.K = X.K) (h1 : JE X c e1 f1) : JE X c (.Subscript e1 (.Slice none none none p2) pos) (fun δ M => bnd (f1 δ M) fun d M1 => po m M1 (pSl00 [d] M1)) :=
  je_imp (pe_slice sl_M h1 po_none po_none) fun W δ M σ H Q q r =>
  (Res.step (R := RD c.g) (f := f1) q r).mono fun x H1 ⟨W1, d1, M1, ex1, p1, rd1, r1⟩ => hK ▸ ok_slice p1.sr rd1 (po_pres p1.sr r1)
theorem je_sl01 {m : Bool} {p2 : Pos} (hK : c.g.K = X.K) (h1 : JE X c e1 f1) (h2 : JE X c e2 f2) : JE X c (.Subscript e1 (.Slice none (some e2) none p2) pos) (fun δ M => bnd (f1 δ M) fun d M1 => bnd (f2 δ M1) fun d2 M2 => po m M2 (pSl01 [d, d2] M2)) :=
  je_imp (pe_slice sl_M h1 po_none (po_some h2)) fun W δ M σ H Q q r =>
  (Res.step (R := RD c.g) (f := f1) q r).mono fun x H1 ⟨W1, d1, M1, ex1, p1, rd1, r1⟩ => (Res.step (R := RD c.g) (f := f2) p1 r1).mono fun y H2 ⟨W2, d2, M2, ex2, p2, rd2, r2⟩ => by
    have h := po_pres p2.sr r2
    unfold pSl01 at h
    split at h
    · rename_i he; cases he; cases rd2; exact ⟨_, rfl, hK ▸ ok_slice p2.sr (rd1.up ex2) h⟩
    · exact h.elim
theorem je_sl10 {m : Bool} {p2 : Pos} (hK : c.g.K = X.K) (h1 : JE X c e1 f1) (h2 : JE X c e2 f2) : JE X c (.Subscript e1 (.Slice (some e2) none none p2) pos) (fun δ M => bnd (f1 δ M) fun d M1 => bnd (f2 δ M1) fun d2 M2 => po m M2 (pSl10 [d, d2] M2)) :=
  je_imp (pe_slice sl_M h1 (po_some h2) po_none) fun W δ M σ H Q q r =>
  (Res.step (R := RD c.g) (f := f1) q r).mono fun x H1 ⟨W1, d1, M1, ex1, p1, rd1, r1⟩ => (Res.step (R := RD c.g) (f := f2) p1 r1).mono fun y H2 ⟨W2, d2, M2, ex2, p2, rd2, r2⟩ => by
    have h := po_pres p2.sr r2
    unfold pSl10 at h
    split at h
    · rename_i he; cases he; cases rd2; exact ⟨_, rfl, hK ▸ ok_slice p2.sr (rd1.up ex2) h⟩
    · exact h.elim
theorem je_sl3 {m : Bool} {p2 : Pos} (hK : c.g.K = X.K) (h1 : JE X c e1 f1) (h2 : JE X c e2 f2) (h3 : JE X c e3 f3) : JE X c (.Subscript e1 (.Slice (some e2) (some e3) none p2) pos) (fun δ M => bnd (f1 δ M) fun d M1 => bnd (f2 δ M1) fun d2 M2 => match d2 with
    | .int i => bnd (f3 δ M2) fun d3 M3 => match d3 with
      | .int j => po m M3 (slice M3 d (some i) (some j))
      | _ => none
    | _ => none) :=
  je_imp (pe_slice sl_M h1 (po_some h2) (po_some h3)) fun W δ M σ H Q q r =>
  (Res.step (R := RD c.g) (f := f1) q r).mono fun x H1 ⟨W1, d1, M1, ex1, p1, rd1, r1⟩ => (Res.step (R := RD c.g) (f := f2) p1 r1).mono fun y H2 ⟨W2, d2, M2, ex2, p2, rd2, r2⟩ => by
    split at r2
    · rename_i i
      cases rd2
      refine ⟨i, rfl, (Res.step (R := RD c.g) (f := f3) p2 r2).mono fun z H3 ⟨W3, d3, M3, ex3, p3, rd3, r3⟩ => ?_⟩
      split at r3
      · rename_i j
        cases rd3
        exact ⟨j, rfl, hK ▸ ok_slice p3.sr ((rd1.up ex2).up ex3) (po_pres p3.sr r3)⟩
      · exact r3.elim
    · exact r2.elim

/-! ### methods of built-in types -/
theorem je_append {m : Bool} {cpos : Pos} (hK : c.g.K = X.K) (ho : JE X c o f) (h1 : JE X c e1 f1) (hbase : attributeBase o ("append" : Str) X.env (eval o X.env) = eval o X.env)
    (hfew : ((backTo cpos (starEach [e1] X.env)).all (fun x => !x.1) && (backToKw cpos (keywordEach [] X.env)).all (fun x => x.1.isSome)
      && decide (([e1] : List Expr).length + ([] : List Keyword).length + (if ([] : List Keyword).isEmpty then 0 else 1) < 30)) = true)
    (hline : (apos.endLine == cpos.line) = true) (hs : starEach [e1] X.env = (false, eval e1 X.env) :: starEach [] X.env) (hplain : (backTo cpos (starEach [] X.env)).any (·.1) = false) :
    JE X c (.Call (.Attribute o "append" apos) [e1] [] cpos) (fun δ M => bnd (f δ M) fun d M1 => if recv .append M1 d = true then bnd (f1 δ M1) fun y M2 => po m M2 (pAppend [d, y] M2) else none) :=
  je_imp (pe_bm PySem.F.plainAttrs_list PySem.F.slot_list_append PySem.F.type_list_append (show MtR X "list.append" rAppend from mt_append) ho (pa_cons h1 pa_nil hs) hbase hfew hline hs hplain) fun W δ M σ H Q q r =>
  (Res.step (R := RD c.g) (f := f) q r).mono fun x H1 ⟨W1, d1, M1, ex1, p1, rd1, r1⟩ => by
    split at r1
    · rename_i hr
      obtain ⟨xs, hx⟩ := Option.isSome_iff_exists.mp hr
      obtain ⟨a, vs, rfl, hv, _⟩ := hp_of p1.sr rd1 hx
      refine ⟨.inl ⟨rfl, vs, hK ▸ .of hv⟩, (Res.step (R := RD c.g) (f := f1) p1 r1).mono fun y H2 ⟨W2, d2, M2, ex2, p2, rd2, r2⟩ => ?_⟩
      exact ok_append p2.sr (rd1.up ex2) rd2 (po_pres p2.sr r2)
    · exact r1.elim
theorem je_extend {m : Bool} {cpos : Pos} (hK : c.g.K = X.K) (ho : JE X c o f) (h1 : JE X c e1 f1) (hbase : attributeBase o ("extend" : Str) X.env (eval o X.env) = eval o X.env)
    (hfew : ((backTo cpos (starEach [e1] X.env)).all (fun x => !x.1) && (backToKw cpos (keywordEach [] X.env)).all (fun x => x.1.isSome)
      && decide (([e1] : List Expr).length + ([] : List Keyword).length + (if ([] : List Keyword).isEmpty then 0 else 1) < 30)) = true)
    (hline : (apos.endLine == cpos.line) = true) (hs : starEach [e1] X.env = (false, eval e1 X.env) :: starEach [] X.env) (hplain : (backTo cpos (starEach [] X.env)).any (·.1) = false) :
    JE X c (.Call (.Attribute o "extend" apos) [e1] [] cpos) (fun δ M => bnd (f δ M) fun d M1 => if recv .extend M1 d = true then bnd (f1 δ M1) fun y M2 => po m M2 (pExtend [d, y] M2) else none) :=
  je_imp (pe_bm PySem.F.plainAttrs_list PySem.F.slot_list_extend PySem.F.type_list_extend mt_extM ho (pa_cons h1 pa_nil hs) hbase hfew hline hs hplain) fun W δ M σ H Q q r =>
  (Res.step (R := RD c.g) (f := f) q r).mono fun x H1 ⟨W1, d1, M1, ex1, p1, rd1, r1⟩ => by
    split at r1
    · rename_i hr
      obtain ⟨xs, hx⟩ := Option.isSome_iff_exists.mp hr
      obtain ⟨a, vs, rfl, hv, _⟩ := hp_of p1.sr rd1 hx
      refine ⟨.inl ⟨rfl, vs, hK ▸ .of hv⟩, (Res.step (R := RD c.g) (f := f1) p1 r1).mono fun y H2 ⟨W2, d2, M2, ex2, p2, rd2, r2⟩ => ?_⟩
      exact hK ▸ ok_extend p2.sr (rd1.up ex2) rd2 (po_pres p2.sr r2)
    · exact r1.elim
theorem je_count {m : Bool} {cpos : Pos} (hK : c.g.K = X.K) (ho : JE X c o f) (h1 : JE X c e1 f1) (hbase : attributeBase o ("count" : Str) X.env (eval o X.env) = eval o X.env)
    (hfew : ((backTo cpos (starEach [e1] X.env)).all (fun x => !x.1) && (backToKw cpos (keywordEach [] X.env)).all (fun x => x.1.isSome)
      && decide (([e1] : List Expr).length + ([] : List Keyword).length + (if ([] : List Keyword).isEmpty then 0 else 1) < 30)) = true)
    (hline : (apos.endLine == cpos.line) = true) (hs : starEach [e1] X.env = (false, eval e1 X.env) :: starEach [] X.env) (hplain : (backTo cpos (starEach [] X.env)).any (·.1) = false) :
    JE X c (.Call (.Attribute o "count" apos) [e1] [] cpos) (fun δ M => bnd (f δ M) fun d M1 => if recv .count M1 d = true then bnd (f1 δ M1) fun y M2 => po m M2 (pCount [d, y] M2) else none) :=
  je_imp (pe_bm PySem.F.plainAttrs_list PySem.F.slot_list_count PySem.F.type_list_count mt_lcount ho (pa_cons h1 pa_nil hs) hbase hfew hline hs hplain) fun W δ M σ H Q q r =>
  (Res.step (R := RD c.g) (f := f) q r).mono fun x H1 ⟨W1, d1, M1, ex1, p1, rd1, r1⟩ => by
    split at r1
    · rename_i hr
      obtain ⟨xs, hx⟩ := Option.isSome_iff_exists.mp hr
      obtain ⟨a, vs, rfl, hv, _⟩ := sq_of p1.sr rd1 hx
      refine ⟨.inl ⟨rfl, vs, hK ▸ hv⟩, (Res.step (R := RD c.g) (f := f1) p1 r1).mono fun y H2 ⟨W2, d2, M2, ex2, p2, rd2, r2⟩ => ?_⟩
      exact hK ▸ ok_count p2.sr (rd1.up ex2) rd2 (po_pres p2.sr r2)
    · exact r1.elim
theorem je_index {m : Bool} {cpos : Pos} (hK : c.g.K = X.K) (ho : JE X c o f) (h1 : JE X c e1 f1) (hbase : attributeBase o ("index" : Str) X.env (eval o X.env) = eval o X.env)
    (hfew : ((backTo cpos (starEach [e1] X.env)).all (fun x => !x.1) && (backToKw cpos (keywordEach [] X.env)).all (fun x => x.1.isSome)
      && decide (([e1] : List Expr).length + ([] : List Keyword).length + (if ([] : List Keyword).isEmpty then 0 else 1) < 30)) = true)
    (hline : (apos.endLine == cpos.line) = true) (hs : starEach [e1] X.env = (false, eval e1 X.env) :: starEach [] X.env) (hplain : (backTo cpos (starEach [] X.env)).any (·.1) = false) :
    JE X c (.Call (.Attribute o "index" apos) [e1] [] cpos) (fun δ M => bnd (f δ M) fun d M1 => if recv .index M1 d = true then bnd (f1 δ M1) fun y M2 => po m M2 (pIndex [d, y] M2) else none) :=
  je_imp (pe_bm PySem.F.plainAttrs_list PySem.F.slot_list_index PySem.F.type_list_index mt_index ho (pa_cons h1 pa_nil hs) hbase hfew hline hs hplain) fun W δ M σ H Q q r =>
  (Res.step (R := RD c.g) (f := f) q r).mono fun x H1 ⟨W1, d1, M1, ex1, p1, rd1, r1⟩ => by
    split at r1
    · rename_i hr
      obtain ⟨xs, hx⟩ := Option.isSome_iff_exists.mp hr
      obtain ⟨a, vs, rfl, hv, _⟩ := sq_of p1.sr rd1 hx
      refine ⟨.inl ⟨rfl, vs, hK ▸ hv⟩, (Res.step (R := RD c.g) (f := f1) p1 r1).mono fun y H2 ⟨W2, d2, M2, ex2, p2, rd2, r2⟩ => ?_⟩
      exact hK ▸ ok_index p2.sr (rd1.up ex2) rd2 (po_pres p2.sr r2)
    · exact r1.elim
/-- d[k] of a dict -/
theorem je_dix {m : Bool} (hu : X.A.units + 1 < cLine) (ho : JE X c o f) (h1 : JE X c e1 f1) (hs : NoSl e1) :
    JE X c (.Subscript o e1 pos) (fun δ M => bnd (f δ M) fun d M1 => bnd (f1 δ M1) fun y M2 => po m M2 (pDix [d, y] M2)) := je_imp (pe_dget hu ho h1 hs) fun W δ M σ H Q q r =>
  (Res.step (R := RD c.g) (f := f) q r).mono fun x H1 ⟨W1, d1, M1, ex1, p1, rd1, r1⟩ => (Res.step (R := RD c.g) (f := f1) p1 r1).mono fun y H2 ⟨W2, d2, M2, ex2, p2, rd2, r2⟩ => by
    unfold pDix at r2
    split at r2
    · rename_i he
      cases he
      split at r2
      · rename_i z hz
        obtain ⟨a, ov, rfl, _, dg, _, hs⟩ := getD_ok p2.sr (rd1.up ex2) rd2 hz
        obtain ⟨v, rfl, rv⟩ := hs z rfl
        exact ⟨a, v, rfl, dg, r2.done p2.sr rv⟩
      · exact r2.elim
    · exact r2.elim
theorem je_din {m : Bool} (hu : X.A.units + 1 < cLine) (h1 : JE X c e1 f1) (ho : JE X c o f) (hm : behindInMarks .In o = false) :
    JE X c (.Compare e1 [.In] [o] pos) (fun δ M => bnd (f1 δ M) fun y M1 => bnd (f δ M1) fun d M2 => po m M2 (pDin [y, d] M2)) := je_imp (pe_cmp (pc_din hu h1 ho) hm) fun W δ M σ H Q q r =>
  (Res.step (R := RD c.g) (f := f1) q r).mono fun x H1 ⟨W1, d1, M1, ex1, p1, rd1, r1⟩ => (Res.step (R := RD c.g) (f := f) p1 r1).mono fun y H2 ⟨W2, d2, M2, ex2, p2, rd2, r2⟩ => by
    unfold pDin at r2
    split at r2
    · rename_i he
      cases he
      split at r2
      · rename_i z hz
        obtain ⟨a, ov, rfl, _, dg, hn, hs⟩ := getD_ok p2.sr rd2 (rd1.up ex2) hz
        refine ⟨a, ov, rfl, dg, ?_⟩
        have e : ov.isSome = z.isSome := by
          cases z with
          | none => rw [hn rfl]; rfl
          | some z => obtain ⟨v, rfl, _⟩ := hs z rfl; rfl
        rw [e]
        exact r2.done p2.sr rfl
      · exact r2.elim
    · exact r2.elim
theorem je_dnotin {m : Bool} (hu : X.A.units + 1 < cLine) (h1 : JE X c e1 f1) (ho : JE X c o f) (hm : behindInMarks .NotIn o = false) :
    JE X c (.Compare e1 [.NotIn] [o] pos) (fun δ M => bnd (f1 δ M) fun y M1 => bnd (f δ M1) fun d M2 => po m M2 (pDnotIn [y, d] M2)) := je_imp (pe_cmp (pc_dnotin hu h1 ho) hm) fun W δ M σ H Q q r =>
  (Res.step (R := RD c.g) (f := f1) q r).mono fun x H1 ⟨W1, d1, M1, ex1, p1, rd1, r1⟩ => (Res.step (R := RD c.g) (f := f) p1 r1).mono fun y H2 ⟨W2, d2, M2, ex2, p2, rd2, r2⟩ => by
    unfold pDnotIn at r2
    split at r2
    · rename_i he
      cases he
      split at r2
      · rename_i z hz
        obtain ⟨a, ov, rfl, _, dg, hn, hs⟩ := getD_ok p2.sr rd2 (rd1.up ex2) hz
        refine ⟨a, ov, rfl, dg, ?_⟩
        have e : ov.isSome = z.isSome := by
          cases z with
          | none => rw [hn rfl]; rfl
          | some z => obtain ⟨v, rfl, _⟩ := hs z rfl; rfl
        rw [e]
        exact r2.done p2.sr rfl
      · exact r2.elim
    · exact r2.elim
theorem isDict_ok {g : Gd} {W : Wd} {H : Hp} {M : Store} {d : D} {x : V} (s : SR g W H M) (r : Rep g.K W H d x) (h : isDict M d = true) : ∃ a, x = .ref a ∧ IsD H a := by
  unfold isDict at h
  split at h
  · split at h
    · rename_i hk
      obtain ⟨a, rfl, _, ks, hv, _⟩ := ob_of s r hk
      exact ⟨a, rfl, .inl ⟨ks, .inl hv⟩⟩
    · rename_i hk
      obtain ⟨a, rfl, _, ks, hv, _⟩ := ob_of s r hk
      exact ⟨a, rfl, .inr ⟨ks, .inl hv⟩⟩
    · cases h
  · cases h
theorem je_get1 {m : Bool} {cpos : Pos} (hu : X.A.units + 1 < cLine) (ho : JE X c o f) (h1 : JE X c e1 f1) (hm : M1 X o "get" apos e1 cpos) :
    JE X c (.Call (.Attribute o "get" apos) [e1] [] cpos) (fun δ M => bnd (f δ M) fun d M1 => if recv .get1 M1 d = true then bnd (f1 δ M1) fun y M2 => po m M2 (pGet1 [d, y] M2) else none) := je_imp (pe_dget1 hu ho h1 hm) fun W δ M σ H Q q r =>
  (Res.step (R := RD c.g) (f := f) q r).mono fun x H1 ⟨W1, d1, M1, ex1, p1, rd1, r1⟩ => by
    split at r1
    · rename_i hr
      obtain ⟨a, rfl, ha⟩ := isDict_ok p1.sr rd1 hr
      refine ⟨a, rfl, ha, (Res.step (R := RD c.g) (f := f1) p1 r1).mono fun y H2 ⟨W2, d2, M2, ex2, p2, rd2, r2⟩ => ?_⟩
      unfold pGet1 at r2
      split at r2
      · rename_i he
        cases he
        split at r2
        · rename_i z hz
          obtain ⟨a', ov, ea, _, dg, hn, hs⟩ := getD_ok p2.sr (rd1.up ex2) rd2 hz
          cases ea
          refine ⟨ov, dg, ?_⟩
          cases z with
          | none => rw [hn rfl]; exact r2.done p2.sr rfl
          | some z => obtain ⟨v, rfl, rv⟩ := hs z rfl; exact r2.done p2.sr rv
        · exact r2.elim
      · exact r2.elim
    · exact r1.elim
theorem je_get2 {m : Bool} {cpos : Pos} (hu : X.A.units + 1 < cLine) (ho : JE X c o f) (h1 : JE X c e1 f1) (h2 : JE X c e2 f2) (hm : M2 X o "get" apos e1 e2 cpos) :
    JE X c (.Call (.Attribute o "get" apos) [e1, e2] [] cpos) (fun δ M => bnd (f δ M) fun d M1 => if recv .get2 M1 d = true then bnd (f1 δ M1) fun y M2 => bnd (f2 δ M2) fun z M3 => po m M3 (pGet2 [d, y, z] M3) else none) := je_imp (pe_dget2 hu ho h1 h2 hm) fun W δ M σ H Q q r =>
  (Res.step (R := RD c.g) (f := f) q r).mono fun x H1 ⟨W1, d1, M1, ex1, p1, rd1, r1⟩ => by
    split at r1
    · rename_i hr
      obtain ⟨a, rfl, ha⟩ := isDict_ok p1.sr rd1 hr
      refine ⟨a, rfl, ha, (Res.step (R := RD c.g) (f := f1) p1 r1).mono fun y H2 ⟨W2, d2, M2, ex2, p2, rd2, r2⟩ => (Res.step (R := RD c.g) (f := f2) p2 r2).mono fun z H3 ⟨W3, d3, M3, ex3, p3, rd3, r3⟩ => ?_⟩
      unfold pGet2 at r3
      split at r3
      · rename_i he
        cases he
        split at r3
        · rename_i z hz
          obtain ⟨a', ov, ea, _, dg, hn, hs⟩ := getD_ok p3.sr ((rd1.up ex2).up ex3) (rd2.up ex3) hz
          cases ea
          refine ⟨ov, dg, ?_⟩
          cases z with
          | none => rw [hn rfl]; exact r3.done p3.sr rd3
          | some z => obtain ⟨v, rfl, rv⟩ := hs z rfl; exact r3.done p3.sr rv
        · exact r3.elim
      · exact r3.elim
    · exact r1.elim
/-- o.f -/
theorem je_fld {cl m : Nat} (hc : Cls X.K (c.g.ca cl)) (hn : NoAttr X.K (c.g.ca cl) (nm m)) (ho : JE X c o f) (hab : attributeBase o (nm m) X.env (eval o X.env) = eval o X.env) :
    JE X c (.Attribute o (nm m) pos) (fun δ M => bnd (f δ M) fun d M1 => match d with
      | .oid n => match M1[n]? with
        | some (.ins c' fs) => if c' = cl then match fs.lookup m with
            | some y => rok y M1
            | none => none
          else none
        | _ => none
      | _ => none) := je_imp (pe_fld ho hab) fun W δ M σ H Q q r =>
  (Res.step (R := RD c.g) (f := f) q r).mono fun x H1 ⟨W1, d1, M1, ex1, p1, rd1, r1⟩ => by
    split at r1
    · split at r1
      · rename_i hk
        split at r1
        · rename_i hcl
          subst hcl
          obtain ⟨a, rfl, ea, dx, fv, hv, rf⟩ := ob_of p1.sr rd1 hk
          split at r1
          · rename_i y hy
            obtain ⟨v, l, rv⟩ := rf.look hy
            exact ⟨a, _, dx, fv, v, rfl, hv, hc, hn, l, r1.done p1.sr rv⟩
          · exact r1.elim
        · exact r1.elim
      · exact r1.elim
    · exact r1.elim
/-- the field of a caught exception -/
theorem je_xfld {Y : Cx} {a : Addr} {oe : Obj} {cls : Value} {dd : Option Addr} {pn : List (Addr × Obj)} {x : Exn} {m i : Nat} {xn : Str} (hX : X = Y.suite a ((a, oe) :: pn)) (hcx : c.cx = some (x, dd, a, i)) (ecl : cls = .ref (c.g.ca x.cls)) (T : XfC X.K (c.g.ca x.cls)) (hno : PySem.W.findIn X.K (.ref (c.g.ca x.cls)) (nm m) = some none)
    (hz : Zc cls dd oe) (hf : ∃ vs, oe.data = .fields vs) (hN : X.N[i]? = some xn) (hv : Vis X.env.scope xn) (hd : (xn == ("__debug__" : Str)) = false) (hcd : (xn == ("__classdict__" : Str)) = false)
    (hab : attributeBase (.Name xn p) (nm m) X.env (eval (.Name xn p) X.env) = eval (.Name xn p) X.env) :
    JE X c (.Attribute (.Name xn p) (nm m) pos) (fun δ M => match δ[i]? with
      | some (some .exr) => match x.fs.lookup m with
        | some y => rok y M
        | none => none
      | _ => none) := by
  subst hX
  refine je_imp (pe_xf T hno hz hf (pe_var hN hv hd hcd) hab) fun W δ M σ H Q q r => ?_
  split at r
  · rename_i hi
    split at r
    · rename_i y hy
      obtain ⟨hx, hs⟩ := q.cur x dd a i hcx
      rcases hx with hx | ⟨d, fv, h1, h2, h3⟩
      · rw [hx] at hy; cases hy
      · obtain ⟨v', l, rv⟩ := h3 m y hy
        exact ⟨.ref a, hs hi, rfl, ecl, d, fv, v', h1, h2, l, r.done q.sr rv⟩
    · exact r.elim
  · exact r.elim
end
/-- a method of two parameters and one behind the star, whose default is None -/
structure MwKn (P : Program) (w : World) (K : PySem.W.Frag) (mg : Str → Option Value) (base : Heap) (g : Gd) (c m k : Nat) (kw : Str) (C : Ctr) : Prop where
  ex : ∃ f fd ps, Cls K (g.ca c) ∧ Meth K (g.ca c) (nm m) f ∧ (∃ ds, Vals [.non] ds ∧ Binds K fd ps ds) ∧ (∀ (s : Shared) (x y z : Value), BindsTo s fd ⟨[x, y], [(kw, z)]⟩ (ps.zip [x, y, z])) ∧ FnOk P w K mg base (L2.CX P w) k f fd ps (spC g 3 C)
theorem kw_binds {K : PySem.W.Frag} {x qual : Str} {st : Stmt} {f D : Addr} {oc : Value} {od an : Option Addr} {osl : Array (Option Value)} {dc pm cdv ct : Value} {ps : List Str} {kw : Str} (l : K.lookup f = some ⟨oc, od, .func (PySem.W.fnOf x qual (defArgs st) (defBody st) (defScope st) .none (.ref D) dc pm an cdv ct), osl⟩)
    (hc : PySem.W.codeIn K cdv qual = true) (kp : PySem.W.keepIn K (.ref f) = true) (hD : PySem.W.nsIn K D kw = some (some .none)) (n : Nat) (hn : n + 1 = ps.length)
    (h : ∀ (D : Addr) (doc pm : Value) (an : Option Addr) (cdv ct : Value) (us ks : List Value), us.length = n → ks.length = 1 → KwChain D ([kw].zip ks) (bindArgs (PySem.W.fnOf x qual (defArgs st) (defBody st) (defScope st) .none (.ref D) doc pm an cdv ct) ⟨us, []⟩) (ps.zip (us ++ ks))) :
    ∃ ds, Vals [.non] ds ∧ Binds K (PySem.W.fnOf x qual (defArgs st) (defBody st) (defScope st) .none (.ref D) dc pm an cdv ct) ps ds := by
  have F : FunD K x qual (defArgs st) (defBody st) (defScope st) [] [(kw, V.non)] f (PySem.W.fnOf x qual (defArgs st) (defBody st) (defScope st) .none (.ref D) dc pm an cdv ct) :=
    ⟨⟨oc, od, .none, .ref D, dc, pm, an, cdv, ct, osl, rfl, l, hc, .inl ⟨rfl, rfl⟩, .inr ⟨D, rfl, fun q hq => by
      simp only [List.mem_cons, List.not_mem_nil, or_false] at hq
      subst hq
      exact ⟨.none, hD, rfl⟩⟩⟩, kp⟩
  exact F.binds0 n (by simp) hn h
section
variable {X : Cx} {c : Cf} {e e1 e2 e3 o : Expr} {es : List Expr} {f f1 f2 f3 : Sl → Store → Rs D} {fs : Sl → Store → Rs (List D)} {pos p apos kpos : Pos} {x kw : Str} {n k m : Nat} {C : Ctr}
theorem je_mcallD {cl : Nat} (F : MwKn X.prog X.w X.K X.mg X.base c.g cl m k kw C) (hr : Room k X.A) (tk : Takes X c.Wx) (ho : JE X c o f) (ha : JA X c (e :: es) fs) {pl : Sem Bool}
    (hst : starEach (e :: es) X.env = (false, eval e X.env) :: starEach es X.env) (hpl : (backTo pos (starEach es X.env)).any (·.1) = false)
    (ht : eval (.Call (.Attribute o (nm m) apos) (e :: es) [] pos) X.env = (do
      let ov ← eval o X.env
      standAt apos.atName
      let (f, first) ← holding [ov] (getMethod ov (nm m) pl)
      callWith pos f first (backTo pos (starEach (e :: es) X.env)) (backToKw pos (keywordEach [] X.env)))) :
    JE X c (.Call (.Attribute o (nm m) apos) (e :: es) [] pos) (fun δ M => bnd (f δ M) fun d M1 => match d with
      | .oid i => match M1[i]? with
        | some (.ins c' fl) => if c' = cl ∧ fl.lookup m = none then bnd (fs δ M1) fun ds M2 => arC 3 C (.oid i :: (ds ++ [.non])) M2 else none
        | _ => none
      | _ => none) := by
  obtain ⟨fa, fd, ps, h0, h1, ⟨dv, hdv, h3⟩, _, h4⟩ := F.ex
  refine ⟨fun pins s σ H Q I ⟨W, δ, M, q, r⟩ => ?_⟩
  refine PySem.W.methodCall_KW (pl := pl) (thn (ho.run pins s σ H _ I (Res.step (R := RD c.g) (f := f) q r)) fun u s1 ⟨x, H1, I1, rx, W1, d1, M1, ex1, p1, rd1, r1⟩ => ?_) ht
  split at r1
  · rename_i i
    split at r1
    · rename_i c' fl hi
      split at r1
      · rename_i hc
        obtain ⟨rfl, hl⟩ := hc
        obtain ⟨a, ex, ea, dx, fv, hv, rf⟩ := ob_of p1.sr rd1 hi
        subst ex
        obtain rfl : u = Value.ref a := rx
        refine getmeth_ok I1 hv h0 h1 (rf.none hl) ?_
        refine PySem.W.callWith_K (first := [.ref a]) (h₀ := X.base) I.ok.mod.kin h1.kp (thn (ha.run pos pins s1 σ H1 _ I1 (Res.step (R := RL c.g) (f := fs) p1 r1)) fun us s2 ⟨vs, H2, I2, rv, W2, ds, M2, ex2, p2, rd2, r2⟩ => ⟨I2.kIn, ?_⟩) hst hpl
        exact run_fnSD (E := WE c.Wx) (us := .ref a :: us) (vs := .ref a :: vs) (dvs := [.non]) h4 hr h3 hdv (passAt tk σ) I2 (.cons rfl rv) (sp_arC p2.sr ((rd1.up ex2).cons' (rd2.append (.cons (show Rep _ _ _ .non .non from rfl) .nil))) r2.toC)
      · exact r1.elim
    · exact r1.elim
  · exact r1.elim
theorem run_fnKW {CX : CXT} {sp : Sp} {fa : Addr} {fd : FuncData} {ps : List Str} {E : St → XK} {pins : List (Addr × Obj)} {σ : St} {H : Hp} {s : Shared} {Q : VK} {x y z : Value} {vs : List V} (F : FnOk X.prog X.w X.K X.mg X.base CX k fa fd ps sp) (hr : Room k X.A) (hb : ∀ (s : Shared) (x y z : Value), BindsTo s fd ⟨[x, y], [(kw, z)]⟩ (ps.zip [x, y, z])) (hx : PassesAt CX X σ (E σ))
    (I : Inv X pins σ H s) (r : Vals vs [x, y, z]) (h : sp vs H Q (E σ)) : wpAny (model X.prog X.w) X.A (call (.ref fa) [x, y] [(kw, z)]) (EP X pins σ Q) X.xe s := by
  have hl : [x, y, z].length = ps.length := by rw [← r.length]; exact F.len _ _ _ _ h
  refine wpAny_call (codeAny_mono (F.run X.A X.stack s H ⟨[x, y], [(kw, z)]⟩ [x, y, z] vs Q (E σ) hr I.env0 (hb s x y z) r h) fun r s' hq => ?_)
  cases r with
  | error e => exact hx pins H s e s' I hq
  | ok fl =>
    cases fl with
    | ret u => exact I.after hq
    | next => exact False.elim hq
    | brk => exact False.elim hq
    | cont => exact False.elim hq
theorem je_mcallW {cl : Nat} (F : MwKn X.prog X.w X.K X.mg X.base c.g cl m k kw C) (hr : Room k X.A) (tk : Takes X c.Wx) (ho : JE X c o f) (ha : JA X c [e] fs) (hb : JE X c e2 f2) {pl : Sem Bool}
    (hst : starEach [e] X.env = [(false, eval e X.env)])
    (ht : eval (.Call (.Attribute o (nm m) apos) [e] [⟨some kw, e2, kpos⟩] pos) X.env = (do
      let ov ← eval o X.env
      standAt apos.atName
      let (f, first) ← holding [ov] (getMethod ov (nm m) pl)
      callWith pos f first (backTo pos (starEach [e] X.env)) (backToKw pos (keywordEach [⟨some kw, e2, kpos⟩] X.env)))) :
    JE X c (.Call (.Attribute o (nm m) apos) [e] [⟨some kw, e2, kpos⟩] pos) (fun δ M => bnd (f δ M) fun d M1 => match d with
      | .oid i => match M1[i]? with
        | some (.ins c' fl) => if c' = cl ∧ fl.lookup m = none then bnd (fs δ M1) fun ds M2 => bnd (f2 δ M2) fun d2 M3 => arC 3 C (.oid i :: (ds ++ [d2])) M3 else none
        | _ => none
      | _ => none) := by
  obtain ⟨fa, fd, ps, h0, h1, _, h3, h4⟩ := F.ex
  refine ⟨fun pins s σ H Q I ⟨W, δ, M, q, r⟩ => ?_⟩
  refine PySem.W.methodCall_KW (pl := pl) (thn (ho.run pins s σ H _ I (Res.step (R := RD c.g) (f := f) q r)) fun u s1 ⟨x, H1, I1, rx, W1, d1, M1, ex1, p1, rd1, r1⟩ => ?_) ht
  split at r1
  · rename_i i
    split at r1
    · rename_i c' fl hi
      split at r1
      · rename_i hc
        obtain ⟨rfl, hl⟩ := hc
        obtain ⟨a, ex, ea, dx, fv, hv, rf⟩ := ob_of p1.sr rd1 hi
        subst ex
        obtain rfl : u = Value.ref a := rx
        refine getmeth_ok I1 hv h0 h1 (rf.none hl) ?_
        refine PySem.W.callWith_KW (first := [.ref a]) (h₀ := X.base) I.ok.mod.kin h1.kp rfl (thn (ha.run pos pins s1 σ H1 _ I1 (Res.step (R := RL c.g) (f := fs) p1 r1)) fun us s2 ⟨vs, H2, I2, rv, W2, ds, M2, ex2, p2, rd2, r2⟩ => ?_) (by rw [hst]; rfl) hst
        show wpAny _ _ (evalAll [(do let v ← eval e2 X.env; standAt pos; pure v)]) _ _ s2
        refine wpAny_evalAll_cons (wpAny_bind (thn (hb.run pins s2 σ H2 _ I2 (Res.step (R := RD c.g) (f := f2) p2 r2)) fun u2 s3 ⟨x3, H3, I3, rx3, W3, d3, M3, ex3, p3, rd3, r3⟩ => wpAny_bind (wpAny_standAt (wpAny_pure ?_))))
        refine wpAny_evalAll_nil ⟨I3.kIn, ?_⟩
        have l3 : ([D.oid i] ++ (ds ++ [d3])).length = 3 := by
          unfold arC at r3
          split at r3
          · assumption
          · exact r3.toC.elim
        have l1 : ds.length = 1 := by simpa using l3
        have l2 : vs.length = 1 := rd2.length.trans l1
        have l4 : us.length = 1 := rv.length.symm.trans l2
        match us, l4, rv with
        | [u0], _, rv =>
          exact run_fnKW (E := WE c.Wx) (kw := kw) (x := .ref a) (y := u0) (z := u2) (vs := .ref a :: (vs ++ [x3])) h4 hr h3 (passAt tk σ) I3 (.cons rfl (rv.append (.cons rx3 .nil))) (sp_arC p3.sr (((rd1.up ex2).up ex3).cons' ((rd2.up ex3).append (.cons rd3 .nil))) r3.toC)
      · exact r1.elim
    · exact r1.elim
  · exact r1.elim
end
end Mo
/-! Mo6: what is walked, targets, comprehensions. -/
namespace Mo
open PySem PySem.Spec L2
open PyProof.Rows hiding St

/-! ### enumerate(tuple) -/
set_option maxHeartbeats 8000000 in
theorem meets_enum_newB1 {v : Value} {o : Obj} {H : Heap → Prop} (B : Begins v o H) :
    Meets (Builtin.«enumerate.__new__» ⟨[.type "enumerate", v], []⟩) (fun _ R s => H s.heap ∧
      R (.ok (.ret (.ref (s.heap.push o).objs.size))) { s with heap := (s.heap.push o).push { cls := .type "enumerate", data := .fields #[.none, .bool false, .ref s.heap.objs.size, rawInt 0, .none, .none] } }) :=
  .of_wp fun prog w A R s h => by
    obtain ⟨hp, g, d, tk, os⟩ := s; obtain ⟨h1, h⟩ := h
    have hsub := sub_enumerate
    have q1 : ∀ {A' : Around} {E : Value → Shared → Prop} {Q : Value → Shared → Prop}, Q (.ref hp.objs.size) ⟨hp.push o, g, d, tk, os⟩ → wpAny (model prog w) A' (pyIter v) Q E ⟨hp, g, d, tk, os⟩ :=
      fun q => B.iter prog w _ _ ⟨hp, g, d, tk, os⟩ _ h1 q
    wp_walk using q1
    refine wpAny_stack_any fun st => wpAny_pure ?_
    split
    · rename_i c _ _ _ _ _
      cases (c == Value.type "enumerate")
      · wp_walk using q1
        exact ⟨_, rfl, h⟩
      · wp_walk using q1
        exact ⟨_, rfl, h⟩
    · wp_walk using q1
      exact ⟨_, rfl, h⟩
section
variable {prog : Program} {w : World} {A : Around} {E : Value → Shared → Prop} {s : Shared}
theorem call_enumerate_tup {l : Addr} {items : Array Value} {Q : Value → Shared → Prop} (hT : s.heap.IsTuple l items)
    (h : ∀ h', IsEnum h' (s.heap.objs.size + 1) s.heap.objs.size 0 .none → h'.IsTupleIter s.heap.objs.size l 0 → h'.objs.size = s.heap.objs.size + 2 →
      (∀ b o, s.heap.get? b = some o → h'.get? b = some o) → Q (.ref (s.heap.objs.size + 1)) { s with heap := h' }) :
    wpAny (model prog w) A (call (.type "enumerate") [.ref l]) Q E s := by
  refine callType_new F.called_enumerate (by decide) (F.typeCall_enumerate_1 _) (F.newCall_enumerate_1 _) (fun obj => F.args_object_init_2 obj _) F.entry_enumerate_new
    (meets_enum_newB1 (begins_tuple l items)) ⟨hT, ?_⟩
  have hz : (s.heap.push { cls := .type "tuple_iterator", data := .fields #[.ref l, .int 0 0] }).objs.size = s.heap.objs.size + 1 := Heap.size_push ..
  show _ ∧ _
  rw [hz]
  have he : IsEnum ((s.heap.push { cls := .type "tuple_iterator", data := .fields #[.ref l, .int 0 0] }).push
      { cls := .type "enumerate", data := .fields #[.none, .bool false, .ref s.heap.objs.size, rawInt 0, .none, .none] }) (s.heap.objs.size + 1) s.heap.objs.size 0 .none := by
    have := Heap.get?_push_size (s.heap.push { cls := .type "tuple_iterator", data := .fields #[.ref l, .int 0 0] })
      (o := { cls := .type "enumerate", data := .fields #[.none, .bool false, .ref s.heap.objs.size, rawInt 0, .none, .none] }) rfl
    rw [hz] at this; exact this
  refine ⟨⟨_, he, rfl⟩, h _ he ⟨_, Heap.get?_push_of_some _ (Heap.get?_push_size _ rfl), rfl, rfl⟩ (by rw [Heap.size_push, hz]) fun b o x => Heap.get?_push_of_some _ (Heap.get?_push_of_some _ x)⟩
theorem enumT_end {e it a : Addr} {i : Nat} {c : Int} {items : Array Value} {old : Value} {Q : Option Value → Shared → Prop} (hh : A.in1.handled = none) (he : IsEnum s.heap e it c old) (hit : s.heap.IsTupleIter it a i) (p : s.heap.IsTuple a items) (hx : items[i]? = none)
    (hQ : ∀ h', Heap.ExtBut it s.heap h' → Q none { s with heap := h' }) : wpAny (model prog w) A (pyNext (.ref e)) Q E s := by
  have hT : s.TypeIs (.ref e) "enumerate" := ⟨_, he, rfl⟩
  unfold pyNext
  refine wpAny_bind (wpAny_attempt (wpAny_callSpecial?_slot (name := Str.ofString "__next__") hT F.slot_enumerate_next
    (wpAny_call_entry F.slot_enumerate_next hT F.entry_enumerate_next ?_ (F.args_enumerate_next_1 _))))
  show wpAny _ _ (field (.ref e) 2 >>= _) _ _ _
  refine wpAny_bind (wpAny_field he rfl (x := .ref it) rfl ?_)
  refine wpAny_bind (wpAny_nextOf_tuple_end hh hit p hx fun h' x he' hx' => ?_)
  obtain ⟨o, ho, hc⟩ := hx'
  refine wpAny_bind (wpAny_isInstance (T := "StopIteration") (b := true) ⟨o, ho, hc⟩ isSubtype_stop ?_)
  exact wpAny_pure (hQ _ he')
end
def IteT (K : PySem.W.Frag) (a : Addr) : It :=
  ⟨fun i H => ∃ (xs : List V) (x : V), SqT K H a xs ∧ xs[i]? = some x, fun i H v H' => ∃ T x, v = .ref T ∧ H T = none ∧ H' = upd H T (.tup [.int (i : Nat), x]) ∧ ∀ xs, SqT K H a xs → xs[i]? = some x, fun i H => ∃ xs : List V, SqT K H a xs ∧ xs.length ≤ i⟩
theorem turn_enumT {P : Program} {w : World} {K : PySem.W.Frag} {elts : List Expr} {kk : Nat} {tpos : Pos} (a e it : Addr) :
    Turn P w K (.Tuple elts kk tpos) (IteT K a) [e, it] e (fun i h => (∃ old, IsEnum h e it ((i : Nat) : Int) old) ∧ h.IsTupleIter it a i ∧ e ≠ it) where
  mem := by simp
  obj := fun i h st b hb => by
    obtain ⟨⟨old, he⟩, ⟨o, ho, hc, hd⟩, _⟩ := st
    have e' : b = e ∨ b = it := by simpa using hb
    rcases e' with z | z
    · rw [z]; exact ⟨_, he, fun v q => nomatch q⟩
    · rw [z]; exact ⟨o, ho, fun v q => by rw [hd] at q; cases q⟩
  keep := fun i h h' st k => let ⟨⟨old, he⟩, hi, hne⟩ := st; ⟨⟨old, k e (by simp) _ he⟩, hi.at fun o q => k it (by simp) o q, hne⟩
  item := by
    intro X hP hw hK hc i pins s σ H E I hf st hg
    subst hP hw hK
    obtain ⟨⟨old, he⟩, hit, hne⟩ := st
    obtain ⟨xs, x, hq, hx⟩ := hg
    obtain ⟨its, rv, p, hz⟩ := I.tuple hq
    have p : s.heap.IsTuple a its.toArray := p
    obtain ⟨u, hu, ru⟩ := rv.get hx
    have hel : e < s.heap.objs.size := Heap.lt_size he
    have hil : it < s.heap.objs.size := by obtain ⟨_, q, _⟩ := hit; exact Heap.lt_size q
    have hai : a ≠ it := fun z => by
      subst z
      obtain ⟨o1, q1, c1, _⟩ := hit
      obtain ⟨o2, q2, c2, _⟩ := p
      rw [q1] at q2; cases q2
      rw [c1] at c2; exact absurd c2 (by decide)
    have hea : e ≠ a := fun z => by
      subst z
      obtain ⟨o2, q2, c2, _⟩ := p
      rw [he] at q2; cases q2
      exact absurd (show Value.type "enumerate" = Value.type "tuple" from c2) (by decide)
    have hh : X.A.in1.handled = none := I.ok.hd hc
    have D := Draws.tuple (prog := X.prog) (w := X.w) (A := X.A.in1) hh it a hai its.toArray
    have hlt : i < its.toArray.size := by
      have := (List.getElem?_eq_some_iff.mp hu).1
      simpa using this
    refine wpAny_pyNext_enum_itemC D he ⟨hit, p⟩ hlt hne (by simp [hne, hea]) fun y h' tk hy ho hst' hT hsz hk => ?_
    have hy' : y = u := by
      have q : its[i]? = some y := by simpa using hy
      rw [hu] at q; exact (Option.some.inj q).symm
    subst hy'
    obtain ⟨hit', _⟩ := hst'
    refine ⟨_, rfl, wpAny_letOwnedTupleGo_enum (s := { s with heap := h', toks := tk + 1 }) ho fun h'' he' sb => ?_⟩
    have hT2 : h''.get? s.heap.objs.size = some { cls := .type "tuple", data := .seq #[.int i tk, y] } := (sb.2 _ (Nat.ne_of_gt hel)).trans hT
    have new : ObjOk X.prog X.w (upd H s.heap.objs.size (.tup [.int (i : Nat), x])) h'' s.heap.objs.size (.tup [.int (i : Nat), x]) :=
      ⟨by show 2 ≤ sizeLine; decide, [.int i tk, y], .cons ⟨_, rfl⟩ (.cons ru .nil), ⟨_, hT2, rfl, _, rfl⟩⟩
    have I1 : Inv X pins σ (upd H s.heap.objs.size (.tup [.int (i : Nat), x])) { s with heap := h'', toks := tk + 1 } :=
      I.turnedNew (ch := [e, it]) (fun b ob hb q => (sb.2 b (fun z => hb (by simp [z]))).trans (hk b ob (fun z => hb (by simp [z])) (fun z => hb (by simp [z])) q)) hf (Nat.le_refl _) new
    refine ⟨.ref s.heap.objs.size, _, I1, rfl, ⟨_, x, rfl, I.hok.fresh (Nat.le_refl _), rfl, fun ys hy => by rw [I.tuple_inj hy hq]; exact hx⟩, ⟨⟨y, ?_⟩, hit'.at fun o q => (sb.2 it (Ne.symm hne)).trans q, hne⟩, fun b hb => ?_⟩
    · have e1 : ((i + 1 : Nat) : Int) = (i : Int) + 1 := by omega
      rw [e1]; exact he'
    · have hb' : b < s.heap.objs.size := by
        have e' : b = e ∨ b = it := by simpa using hb
        rcases e' with z | z
        · rw [z]; exact hel
        · rw [z]; exact hil
      rw [upd_ne (Nat.ne_of_lt hb')]
      exact (hf b hb).1
  done := by
    intro X hP hw hK hc i pins s σ H E I hf st hg
    subst hP hw hK
    obtain ⟨⟨old, he⟩, hit, hne⟩ := st
    obtain ⟨xs, hq, hx⟩ := hg
    obtain ⟨its, rv, p, hz⟩ := I.tuple hq
    have p : s.heap.IsTuple a its.toArray := p
    obtain ⟨f0, f1, f2, f3, f4, f5⟩ := hf it (by simp)
    have hl := rv.length
    have hai : a ≠ it := fun z => by
      subst z
      obtain ⟨o1, q1, c1, _⟩ := hit
      obtain ⟨o2, q2, c2, _⟩ := p
      rw [q1] at q2; cases q2
      rw [c1] at c2; exact absurd c2 (by decide)
    have hh : X.A.in1.handled = none := I.ok.hd hc
    exact enumT_end hh he hit p (Array.getElem?_eq_none (by simp; omega)) fun h' eb => ⟨rfl, I.turned (t' := s.toks) (fun b o hb q => eb b o hb q) f0 f1 f3 f4 f5⟩
  self := fun A i s Q E st h => let ⟨⟨_, he⟩, _⟩ := st; wpAny_pyIter_enum he h
structure ItOk (g : Gd) (W : Wd) (H : Hp) (it : Items) (J : It) : Prop where
  go : ∀ (i : Nat) W' H' M', i < it.xs.length → Ext0 g.K W H W' H' → SR g W' H' M' → gdOk it.gd M' → J.go i H'
  yld : ∀ (i : Nat) d W' H' M' x H'', it.xs[i]? = some d → Ext0 g.K W H W' H' → SR g W' H' M' → gdOk it.gd M' → J.yld i H' x H'' → ∃ W'', Ext g.K W' H' W'' H'' ∧ SR g W'' H'' M' ∧ Rep g.K W'' H'' d x
  stop : ∀ W' H' M', Ext0 g.K W H W' H' → SR g W' H' M' → gdOk it.gd M' → J.stop it.xs.length H'
theorem ItOk.up {g : Gd} {W W1 : Wd} {H H1 : Hp} {it : Items} {J : It} (h : ItOk g W H it J) (e : Ext0 g.K W H W1 H1) : ItOk g W1 H1 it J :=
  ⟨fun i W' H' M' a b => h.go i W' H' M' a (e.trans b), fun i d W' H' M' x H'' a b => h.yld i d W' H' M' x H'' a (e.trans b), fun W' H' M' b => h.stop W' H' M' (e.trans b)⟩
theorem viewL_gd {M M' : Store} {d : D} {xs : List D} (h : viewL M d = some xs) (q : gdOk (gdOf d xs) M') : viewL M' d = some xs := by
  cases d with
  | oid n => exact viewL_oid (gdOk_some.mp q)
  | lst ys => exact h
  | scr ys => exact h
  | _ => cases h
section
variable {g : Gd} {W : Wd} {H : Hp} {M : Store}
theorem itl_ok {d : D} {xs : List D} {a : Addr} (h : viewL M d = some xs) (r : Rep g.K W H d (.ref a)) : ItOk g W H ⟨xs, gdOf d xs⟩ (Itl g.K a) := by
  have key : ∀ W' H' M', Ext0 g.K W H W' H' → SR g W' H' M' → gdOk (gdOf d xs) M' → ∃ vs, SqL g.K H' a vs ∧ Reps g.K W' H' xs vs := fun W' H' M' e s q => by
    obtain ⟨b, vs, eb, h1, h2⟩ := sq_of s (r.up0 e) (viewL_gd h q)
    cases eb
    exact ⟨vs, h1, h2⟩
  refine ⟨fun i W' H' M' hi e s q => ?_, fun i d W' H' M' x H'' hd e s q y => ?_, fun W' H' M' e s q => ?_⟩
  · obtain ⟨vs, h1, h2⟩ := key W' H' M' e s q
    have hl : i < vs.length := by rw [h2.length]; exact hi
    exact ⟨vs, vs[i], h1, List.getElem?_eq_getElem hl⟩
  · obtain ⟨vs, h1, h2⟩ := key W' H' M' e s q
    obtain ⟨e1, y⟩ := y
    subst e1
    obtain ⟨v, h3, h4⟩ := h2.get hd
    have := y vs h1
    rw [h3] at this
    cases this
    exact ⟨W', .refl, s, h4⟩
  · obtain ⟨vs, h1, h2⟩ := key W' H' M' e s q
    exact ⟨vs, h1, Nat.le_of_eq h2.length⟩
theorem itt_ok {xs : List D} {a : Addr} {gd : Option (Nat × List D)} (key : ∀ W' H', Ext0 g.K W H W' H' → ∃ vs, SqT g.K H' a vs ∧ Reps g.K W' H' xs vs) : ItOk g W H ⟨xs, gd⟩ (Itt g.K a) := by
  refine ⟨fun i W' H' M' hi e s q => ?_, fun i d W' H' M' x H'' hd e s q y => ?_, fun W' H' M' e s q => ?_⟩
  · obtain ⟨vs, h1, h2⟩ := key W' H' e
    have hl : i < vs.length := by rw [h2.length]; exact hi
    exact ⟨vs, vs[i], h1, List.getElem?_eq_getElem hl⟩
  · obtain ⟨vs, h1, h2⟩ := key W' H' e
    obtain ⟨e1, y⟩ := y
    subst e1
    obtain ⟨v, h3, h4⟩ := h2.get hd
    have := y vs h1
    rw [h3] at this
    cases this
    exact ⟨W', .refl, s, h4⟩
  · obtain ⟨vs, h1, h2⟩ := key W' H' e
    exact ⟨vs, h1, Nat.le_of_eq h2.length⟩
theorem its_ok {z : Str} {gd : Option (Nat × List D)} : ItOk g W H ⟨z.cps.toList.map fun c => .str ⟨#[c]⟩, gd⟩ (Its z) := by
  refine ⟨fun i W' H' M' hi e s q => ?_, fun i d W' H' M' x H'' hd e s q y => ?_, fun W' H' M' e s q => ?_⟩
  · show i < z.cps.size
    simpa using hi
  · obtain ⟨e1, c, h1, h2⟩ := y
    subst e1; subst h2
    refine ⟨W', .refl, s, ?_⟩
    rw [List.getElem?_map, Array.getElem?_toList, h1] at hd
    cases hd
    rfl
  · show z.cps.size ≤ _
    simp
theorem rngL_get {lo : Int} {n : Nat} {c : Int} {i : Nat} {d : D} (h : (rngL lo n c)[i]? = some d) : d = .int (lo + i * c) := by
  unfold rngL at h
  rw [List.getElem?_map] at h
  obtain ⟨k, hk, e⟩ := Option.map_eq_some_iff.mp h
  obtain ⟨h1, h2⟩ := List.getElem?_eq_some_iff.mp hk
  rw [List.getElem_range] at h2
  subst h2
  exact e.symm
theorem rngL_length {lo : Int} {n : Nat} {c : Int} : (rngL lo n c).length = n := by simp [rngL]
theorem itr_ok {lo : Int} {n : Nat} {gd : Option (Nat × List D)} : ItOk g W H ⟨rngL lo n 1, gd⟩ (Itr lo n) := by
  refine ⟨fun i W' H' M' hi e s q => ?_, fun i d W' H' M' x H'' hd e s q y => ?_, fun W' H' M' e s q => ?_⟩
  · rw [rngL_length] at hi; exact hi
  · obtain ⟨e1, y⟩ := y
    subst e1
    refine ⟨W', .refl, s, ?_⟩
    rw [rngL_get hd, y, Int.mul_one]
    rfl
  · show n ≤ _
    rw [rngL_length]; exact Nat.le_refl _
theorem itc_ok {lo : Int} {n : Nat} {c : Int} {gd : Option (Nat × List D)} : ItOk g W H ⟨rngL lo n c, gd⟩ (Itc lo c n) := by
  refine ⟨fun i W' H' M' hi e s q => ?_, fun i d W' H' M' x H'' hd e s q y => ?_, fun W' H' M' e s q => ?_⟩
  · rw [rngL_length] at hi; exact hi
  · obtain ⟨e1, y⟩ := y
    subst e1
    refine ⟨W', .refl, s, ?_⟩
    rw [rngL_get hd, y]
    rfl
  · show n ≤ _
    rw [rngL_length]; exact Nat.le_refl _
theorem ite_ok {d : D} {xs : List D} {a : Addr} (h : viewL M d = some xs) (r : Rep g.K W H d (.ref a)) : ItOk g W H ⟨xs.zipIdx.map fun p => .tup [.int (p.2 : Int), p.1], gdOf d xs⟩ (Ite g.K a) := by
  have key : ∀ W' H' M', Ext0 g.K W H W' H' → SR g W' H' M' → gdOk (gdOf d xs) M' → ∃ vs, SqL g.K H' a vs ∧ Reps g.K W' H' xs vs := fun W' H' M' e s q => by
    obtain ⟨b, vs, eb, h1, h2⟩ := sq_of s (r.up0 e) (viewL_gd h q)
    cases eb
    exact ⟨vs, h1, h2⟩
  refine ⟨fun i W' H' M' hi e s q => ?_, fun i d W' H' M' x H'' hd e s q y => ?_, fun W' H' M' e s q => ?_⟩
  · obtain ⟨vs, h1, h2⟩ := key W' H' M' e s q
    have hl : i < vs.length := by rw [h2.length]; simpa using hi
    exact ⟨vs, vs[i], h1, List.getElem?_eq_getElem hl⟩
  · obtain ⟨vs, h1, h2⟩ := key W' H' M' e s q
    obtain ⟨T, x1, e1, hT, e2, y⟩ := y
    subst e1; subst e2
    rw [List.getElem?_map, List.getElem?_zipIdx] at hd
    cases q1 : xs[i]? with
    | none => rw [q1] at hd; cases hd
    | some d1 =>
      rw [q1] at hd
      cases hd
      obtain ⟨v, h3, h4⟩ := h2.get q1
      have := y vs h1
      rw [h3] at this
      cases this
      obtain ⟨ex, s1⟩ := s.beside (o := .tup [.int (i : Nat), x1]) hT
      refine ⟨W', ex, s1, T, _, rfl, upd_same, ?_⟩
      refine .cons ?_ (.cons (h4.up ex) .nil)
      show _ = V.int _
      simp
  · obtain ⟨vs, h1, h2⟩ := key W' H' M' e s q
    refine ⟨vs, h1, ?_⟩
    simp [h2.length]
theorem itv_ok {d : D} {xs : List D} {a : Addr} (h : viewL M d = some xs) (r : Rep g.K W H d (.ref a)) : ItOk g W H ⟨xs.reverse, gdOf d xs⟩ (Itv g.K a xs.length) := by
  have key : ∀ W' H' M', Ext0 g.K W H W' H' → SR g W' H' M' → gdOk (gdOf d xs) M' → ∃ vs, SqL g.K H' a vs ∧ Reps g.K W' H' xs vs := fun W' H' M' e s q => by
    obtain ⟨b, vs, eb, h1, h2⟩ := sq_of s (r.up0 e) (viewL_gd h q)
    cases eb
    exact ⟨vs, h1, h2⟩
  refine ⟨fun i W' H' M' hi e s q => ?_, fun i d W' H' M' x H'' hd e s q y => ?_, fun W' H' M' e s q => ?_⟩
  · obtain ⟨vs, h1, h2⟩ := key W' H' M' e s q
    rw [List.length_reverse] at hi
    have hl : xs.length - 1 - i < vs.length := by rw [h2.length]; omega
    exact ⟨hi, vs, vs[xs.length - 1 - i], h1, List.getElem?_eq_getElem hl⟩
  · obtain ⟨vs, h1, h2⟩ := key W' H' M' e s q
    obtain ⟨e1, y⟩ := y
    subst e1
    have hi : i < xs.length := by simpa using (List.getElem?_eq_some_iff.mp hd).1
    rw [List.getElem?_reverse hi] at hd
    obtain ⟨v, h3, h4⟩ := h2.get hd
    have := y vs h1
    rw [h3] at this
    cases this
    exact ⟨W', .refl, s, h4⟩
  · show xs.length ≤ _
    simp
end

/-- the items of an iteration's expression -/
abbrev JI (X : Cx) (c : Cf) (tg e : Expr) (f : Sl → Store → Rs Items) : Prop := PI X tg e (tG c.g c.cx c.Wx (ItOk c.g) f)
section
variable {X : Cx} {c : Cf} {tg e e1 e2 e3 : Expr} {f : Sl → Store → Rs D} {fs : Sl → Store → Rs (List D)} {p pos : Pos}
theorem PI.imp {t t' : TI} (h : PI X tg e t) (hi : ∀ σ H R, t' σ H R → t σ H R) : PI X tg e t' := ⟨fun pins s σ H R I q => h.run pins s σ H R I (hi σ H R q)⟩
theorem ji_imp {t : TI} {fi : Sl → Store → Rs Items} (h : PI X tg e t) (hi : ∀ W δ M σ H R, Pre c.g c.cx W H δ σ M → Res c.g c.Wx (ItOk c.g) W H σ R (fi δ M) → t σ H R) : JI X c tg e fi :=
  PI.imp h fun σ H R ⟨W, δ, M, p, r⟩ => hi W δ M σ H R p r
theorem itemsR_done {g : Gd} {Wx : WX} {W : Wd} {H : Hp} {σ : St} {R : It → Hp → Prop} {k : Ik} {ds : List D} {M : Store} (s : SR g W H M) (r : Res g Wx (ItOk g) W H σ R (itemsR k ds M)) : ∃ it, items k ds M = some it ∧ ∀ J, ItOk g W H it J → R J H := by
  unfold itemsR at r
  split at r
  · exact ⟨_, by assumption, fun J hJ => r.done s hJ⟩
  · exact r.elim
theorem ji_ex (hK : c.g.K = X.K) (he : JE X c e f) : JI X c tg e (fun δ M => bnd (f δ M) fun d M1 => itemsR .ex [d] M1) := by
  refine ⟨fun pins s σ H R I ⟨W, δ, M, p, r⟩ => ?_⟩
  refine thn (he.run pins s σ H _ I (Res.step (R := RD c.g) (f := f) p r)) fun v s1 ⟨x, H1, I1, rx, W1, d, M1, ex1, p1, rd, r1⟩ => ?_
  obtain ⟨it, hit, hR⟩ := itemsR_done p1.sr r1
  have lst : ∀ {xs : List D}, viewL M1 d = some xs → it = ⟨xs, gdOf d xs⟩ → wpAny (model X.prog X.w) X.A (pyIter v) (PIE X pins σ tg R) X.xe s1 := fun {xs} hv ei => by
    subst ei
    obtain ⟨a, vs, ea, hq, hr⟩ := sq_of p1.sr rd hv
    subst ea
    cases rx
    have q := hR (Itl c.g.K a) (itl_ok hv rd)
    rw [hK] at hq q
    obtain ⟨its, rv, pl, hz⟩ := I1.list hq
    refine wpAny_pyIter_list pl.isList ?_
    refine ⟨s1.heap.objs.size, [s1.heap.objs.size], _, _, H1, rfl, I1.kept (t' := s1.toks) fun b o e => Heap.get?_push_of_some _ e, turn_list a _, ⟨_, Heap.get?_push_size _ rfl, rfl, rfl⟩, fun b hb => ?_, q⟩
    have e : b = s1.heap.objs.size := by simpa using hb
    subst e
    exact I1.fpOk (Nat.le_refl _) (I1.hok.fresh (Nat.le_refl _))
  have tup : ∀ {xs : List D} {a : Addr}, x = .ref a → it = ⟨xs, none⟩ → (∀ W' H', Ext0 c.g.K W1 H1 W' H' → ∃ vs, SqT c.g.K H' a vs ∧ Reps c.g.K W' H' xs vs) → wpAny (model X.prog X.w) X.A (pyIter v) (PIE X pins σ tg R) X.xe s1 := fun {xs a} ea ei key => by
    subst ei
    subst ea
    cases rx
    have q := hR (Itt c.g.K a) (itt_ok key)
    obtain ⟨vs, hq, hr⟩ := key W1 H1 .refl
    rw [hK] at hq q
    obtain ⟨its, rv, pl, hz⟩ := I1.tuple hq
    refine wpAny_pyIter_tuple (show s1.heap.IsTuple a its.toArray from pl) ?_
    refine ⟨s1.heap.objs.size, [s1.heap.objs.size], _, _, H1, rfl, I1.kept (t' := s1.toks) fun b o e => Heap.get?_push_of_some _ e, turn_tuple a _, ⟨_, Heap.get?_push_size _ rfl, rfl, rfl⟩, fun b hb => ?_, q⟩
    have e : b = s1.heap.objs.size := by simpa using hb
    subst e
    exact I1.fpOk (Nat.le_refl _) (I1.hok.fresh (Nat.le_refl _))
  cases d with
  | str z =>
    have hit' : (if z.length ≤ line then some (⟨z.cps.toList.map fun c => .str ⟨#[c]⟩, none⟩ : Items) else none) = some it := hit
    split at hit'
    · cases hit'
      cases rd
      have q := hR (Its z) its_ok
      obtain ⟨t, rfl⟩ := rx
      cases ha : z.cps.all (· < 128)
      · exact wpAny_pyIter_wide ha (pi_one (tk := s1.toks) I1 _ (turn_str _ z t "str_iterator" (.inr rfl)) ⟨_, Heap.get?_push_size _ rfl, rfl, rfl⟩ q)
      · exact wpAny_pyIter_ascii ha (pi_one (tk := s1.toks) I1 _ (turn_str _ z t "str_ascii_iterator" (.inl rfl)) ⟨_, Heap.get?_push_size _ rfl, rfl, rfl⟩ q)
    · cases hit'
  | tup xs =>
    obtain ⟨a, vs, ea, h1, h2⟩ := rd
    exact tup ea (Option.some.inj hit).symm fun W' H' e => ⟨vs, .of (e.tups _ _ h1), h2.up0 e⟩
  | ktup xs =>
    obtain ⟨a, vs, ea, h1, h2⟩ := rd
    exact tup ea (Option.some.inj hit).symm fun W' H' e => ⟨vs, .inr h1, h2.up0 e⟩
  | lst xs => exact lst rfl (Option.some.inj hit).symm
  | scr xs => exact lst rfl (Option.some.inj hit).symm
  | oid n =>
    have hit' : (viewL M1 (.oid n)).map (fun xs => (⟨xs, gdOf (.oid n) xs⟩ : Items)) = some it := hit
    obtain ⟨xs, h1, h2⟩ := Option.map_eq_some_iff.mp hit'
    exact lst h1 h2.symm
  | non => cases hit
  | bl _ => cases hit
  | int _ => cases hit
  | exr => cases hit
  | sy _ => cases hit
theorem small62_ok {i : Int} (h : small62 i = true) : -(2 ^ 62) ≤ i ∧ i < 2 ^ 62 := by
  exact okP_ok h
theorem ji_rng1 (hg : Gl X "range") (hm : X.mg "range" = none) (ha : JA X c [e1] fs) (hs : starEach [e1] X.env = [(false, eval e1 X.env)]) :
    JI X c tg (.Call (.Name "range" p) [e1] [] pos) (fun δ M => bnd (fs δ M) fun ds M1 => itemsR .rng1 ds M1) := ji_imp (pi_range1 hg hm ha hs) fun W δ M σ H R q r =>
  (Res.step (R := RL c.g) (f := fs) q r).mono fun vs H1 ⟨W1, ds, M1, ex1, p1, rd1, r1⟩ => by
    obtain ⟨it, hit, hR⟩ := itemsR_done p1.sr r1
    unfold items at hit
    split at hit
    all_goals first | (rename_i he; cases he; done) | (cases hit; done) | skip
    split at hit
    · rename_i h
      cases hit
      obtain ⟨v, ev, rv⟩ := rd1.one
      cases rv
      obtain ⟨h1, h2⟩ := small62_ok h
      exact ⟨_, ev, h1, h2, hR _ itr_ok⟩
    · cases hit
theorem ji_rng2 (hg : Gl X "range") (hm : X.mg "range" = none) (ha : JA X c [e1, e2] fs) (hs : starEach [e1, e2] X.env = [(false, eval e1 X.env), (false, eval e2 X.env)]) (hs2 : starEach [e2] X.env = [(false, eval e2 X.env)]) :
    JI X c tg (.Call (.Name "range" p) [e1, e2] [] pos) (fun δ M => bnd (fs δ M) fun ds M1 => itemsR .rng2 ds M1) := ji_imp (pi_range2 hg hm ha hs hs2) fun W δ M σ H R q r =>
  (Res.step (R := RL c.g) (f := fs) q r).mono fun vs H1 ⟨W1, ds, M1, ex1, p1, rd1, r1⟩ => by
    obtain ⟨it, hit, hR⟩ := itemsR_done p1.sr r1
    unfold items at hit
    split at hit
    all_goals first | (rename_i he; cases he; done) | (cases hit; done) | skip
    split at hit
    · rename_i h
      cases hit
      obtain ⟨v, w, ev, rv, rw'⟩ := rd1.two
      cases rv
      cases rw'
      rw [Bool.and_eq_true] at h
      obtain ⟨h1, h2⟩ := small62_ok h.1
      obtain ⟨h3, h4⟩ := small62_ok h.2
      exact ⟨_, _, ev, ⟨h1, h2, h3, h4⟩, hR _ itr_ok⟩
    · cases hit
theorem ji_rng3 (hg : Gl X "range") (hm : X.mg "range" = none) (ha : JA X c [e1, e2, e3] fs) (hs : starEach [e1, e2, e3] X.env = (false, eval e1 X.env) :: starEach [e2, e3] X.env) (hpl : (backTo pos (starEach [e2, e3] X.env)).any (·.1) = false) :
    JI X c tg (.Call (.Name "range" p) [e1, e2, e3] [] pos) (fun δ M => bnd (fs δ M) fun ds M1 => itemsR .rng3 ds M1) := ji_imp (pi_range3 hg hm ha hs hpl) fun W δ M σ H R q r =>
  (Res.step (R := RL c.g) (f := fs) q r).mono fun vs H1 ⟨W1, ds, M1, ex1, p1, rd1, r1⟩ => by
    obtain ⟨it, hit, hR⟩ := itemsR_done p1.sr r1
    unfold items at hit
    split at hit
    all_goals first | (rename_i he; cases he; done) | (cases hit; done) | skip
    split at hit
    · rename_i h
      cases hit
      obtain ⟨v, w, x, ev, rv, rw', rx⟩ := rd1.three
      cases rv
      cases rw'
      cases rx
      obtain ⟨h1, h2, h3⟩ := okP_ok h
      refine ⟨_, _, _, _, ev, ⟨h1, h2, h3, ?_⟩, hR _ itc_ok⟩
      exact PyProof.Rows.rangeSize_toNat _ _ _
    · cases hit
theorem ite_okT {xs : List D} {a : Addr} {gd : Option (Nat × List D)} {g : Gd} {W : Wd} {H : Hp} (key : ∀ W' H', Ext0 g.K W H W' H' → ∃ vs, SqT g.K H' a vs ∧ Reps g.K W' H' xs vs) : ItOk g W H ⟨xs.zipIdx.map fun p => .tup [.int (p.2 : Int), p.1], gd⟩ (IteT g.K a) := by
  refine ⟨fun i W' H' M' hi e s q => ?_, fun i d W' H' M' x H'' hd e s q y => ?_, fun W' H' M' e s q => ?_⟩
  · obtain ⟨vs, h1, h2⟩ := key W' H' e
    have hl : i < vs.length := by rw [h2.length]; simpa using hi
    exact ⟨vs, vs[i], h1, List.getElem?_eq_getElem hl⟩
  · obtain ⟨vs, h1, h2⟩ := key W' H' e
    obtain ⟨T, x1, e1, hT, e2, y⟩ := y
    subst e1; subst e2
    rw [List.getElem?_map, List.getElem?_zipIdx] at hd
    cases q1 : xs[i]? with
    | none => rw [q1] at hd; cases hd
    | some d1 =>
      rw [q1] at hd
      cases hd
      obtain ⟨v, h3, h4⟩ := h2.get q1
      have := y vs h1
      rw [h3] at this
      cases this
      obtain ⟨ex, s1⟩ := s.beside (o := .tup [.int (i : Nat), x1]) hT
      refine ⟨W', ex, s1, T, _, rfl, upd_same, ?_⟩
      refine .cons ?_ (.cons (h4.up ex) .nil)
      show _ = V.int _
      simp
  · obtain ⟨vs, h1, h2⟩ := key W' H' e
    refine ⟨vs, h1, ?_⟩
    simp [h2.length]
def iEnumS (K : PySem.W.Frag) (ta : TA) : TI := fun σ H R => ta σ H fun vs H1 => ∃ a, vs = [.ref a] ∧ ((∃ xs, SqL K H1 a xs ∧ R (Ite K a) H1) ∨ ∃ xs, SqT K H1 a xs ∧ R (IteT K a) H1)
theorem pi_enumS {X : Cx} {e : Expr} {ta : TA} {p pos tpos : Pos} {elts : List Expr} {kk : Nat} (hg : Gl X "enumerate") (hm : X.mg "enumerate" = none) (ha : PA X [e] ta) (hs : starEach [e] X.env = [(false, eval e X.env)] := by rfl) :
    PI X (.Tuple elts kk tpos) (.Call (.Name "enumerate" p) [e] [] pos) (iEnumS X.K ta) := by
  refine ⟨fun pins s σ H R I h => ?_⟩
  refine Call_ (ld_blt I hg hm boot_enumerate (PyProof.Rows.callWith_type1 (thn (ha.run pos pins s σ H _ I h) fun us s1 ⟨vs, H1, I1, r1, q1⟩ => ?_) hs rfl))
  obtain ⟨a, ex, q1⟩ := q1
  subst ex
  cases r1 with
  | cons r rr =>
    cases rr
    cases r
    rcases q1 with ⟨xs, hq, q⟩ | ⟨xs, hq, q⟩
    · obtain ⟨its, rv, p', hz⟩ := I1.list hq
      refine call_enumerate_list p'.isList fun h' he hit hsz hk => wpAny_pyIter_enum he ?_
      have I2 : Inv X pins σ H1 { s1 with heap := h' } := I1.kept (t' := s1.toks) hk
      refine ⟨s1.heap.objs.size + 1, [s1.heap.objs.size + 1, s1.heap.objs.size], _, _, H1, rfl, I2, turn_enum a (s1.heap.objs.size + 1) s1.heap.objs.size, ⟨⟨.none, he⟩, hit, Nat.succ_ne_self _⟩, fun b hb => ?_, q⟩
      have e' : b = s1.heap.objs.size + 1 ∨ b = s1.heap.objs.size := by simpa using hb
      have hle : s1.heap.objs.size ≤ b := by
        rcases e' with z | z
        · rw [z]; exact Nat.le_add_right _ _
        · rw [z]; exact Nat.le_refl _
      exact I1.fpOk hle (I1.hok.fresh hle)
    · obtain ⟨its, rv, p', hz⟩ := I1.tuple hq
      refine call_enumerate_tup (show s1.heap.IsTuple a its.toArray from p') fun h' he hit hsz hk => wpAny_pyIter_enum he ?_
      have I2 : Inv X pins σ H1 { s1 with heap := h' } := I1.kept (t' := s1.toks) hk
      refine ⟨s1.heap.objs.size + 1, [s1.heap.objs.size + 1, s1.heap.objs.size], _, _, H1, rfl, I2, turn_enumT a (s1.heap.objs.size + 1) s1.heap.objs.size, ⟨⟨.none, he⟩, hit, Nat.succ_ne_self _⟩, fun b hb => ?_, q⟩
      have e' : b = s1.heap.objs.size + 1 ∨ b = s1.heap.objs.size := by simpa using hb
      have hle : s1.heap.objs.size ≤ b := by
        rcases e' with z | z
        · rw [z]; exact Nat.le_add_right _ _
        · rw [z]; exact Nat.le_refl _
      exact I1.fpOk hle (I1.hok.fresh hle)
theorem ji_enum {elts : List Expr} {kk : Nat} {tpos : Pos} (hK : c.g.K = X.K) (hg : Gl X "enumerate") (hm : X.mg "enumerate" = none) (ha : JA X c [e] fs) (hs : starEach [e] X.env = [(false, eval e X.env)]) :
    JI X c (.Tuple elts kk tpos) (.Call (.Name "enumerate" p) [e] [] pos) (fun δ M => bnd (fs δ M) fun ds M1 => itemsR .enum ds M1) := ji_imp (pi_enumS hg hm ha hs) fun W δ M σ H R q r =>
  (Res.step (R := RL c.g) (f := fs) q r).mono fun vs H1 ⟨W1, ds, M1, ex1, p1, rd1, r1⟩ => by
    obtain ⟨it, hit, hR⟩ := itemsR_done p1.sr r1
    unfold items at hit
    split at hit
    all_goals first | (rename_i he; cases he; done) | (cases hit; done) | skip
    obtain ⟨xs, h1, h2⟩ := Option.map_eq_some_iff.mp hit
    subst h2
    obtain ⟨v, ev, rv⟩ := rd1.one
    have tup : ∀ {a : Addr} {ys : List D}, xs = ys → v = .ref a → (∀ W' H', Ext0 c.g.K W1 H1 W' H' → ∃ vs, SqT c.g.K H' a vs ∧ Reps c.g.K W' H' ys vs) → ∀ gd, (∀ J, ItOk c.g W1 H1 ⟨xs.zipIdx.map fun p => .tup [.int (p.2 : Int), p.1], gd⟩ J → R J H1) → ∃ a, vs = [.ref a] ∧ ((∃ xs, SqL X.K H1 a xs ∧ R (Ite X.K a) H1) ∨ ∃ xs, SqT X.K H1 a xs ∧ R (IteT X.K a) H1) := fun {a ys} ey ea key gd hR => by
      subst ey ea
      obtain ⟨ws, hq, hr⟩ := key W1 H1 .refl
      exact ⟨a, ev, .inr ⟨ws, hK ▸ hq, hK ▸ hR _ (ite_okT key)⟩⟩
    rename_i M1 _ _ _ d hds
    have fin : viewL M1 d = some xs → ∃ a, vs = [.ref a] ∧ ((∃ xs, SqL X.K H1 a xs ∧ R (Ite X.K a) H1) ∨ ∃ xs, SqT X.K H1 a xs ∧ R (IteT X.K a) H1) := fun h1 => by
      obtain ⟨a, ws, ea, hq, hr⟩ := sq_of p1.sr rv h1
      subst ea
      exact ⟨a, ev, .inl ⟨ws, hK ▸ hq, hK ▸ hR _ (ite_ok h1 rv)⟩⟩
    cases d with
    | tup ys =>
      cases h1
      obtain ⟨a, ws, ea, t1, t2⟩ := rv
      exact tup rfl ea (fun W' H' e => ⟨ws, .of (e.tups _ _ t1), t2.up0 e⟩) _ hR
    | ktup ys =>
      cases h1
      obtain ⟨a, ws, ea, t1, t2⟩ := rv
      exact tup rfl ea (fun W' H' e => ⟨ws, .inr t1, t2.up0 e⟩) _ hR
    | lst ys => exact fin h1
    | scr ys => exact fin h1
    | oid n => exact fin h1
    | non => cases h1
    | bl _ => cases h1
    | int _ => cases h1
    | exr => cases h1
    | sy _ => cases h1
    | str _ => cases h1
theorem ji_rev (hK : c.g.K = X.K) (hg : Gl X "reversed") (hm : X.mg "reversed" = none) (ha : JA X c [e] fs) (hs : starEach [e] X.env = [(false, eval e X.env)]) :
    JI X c tg (.Call (.Name "reversed" p) [e] [] pos) (fun δ M => bnd (fs δ M) fun ds M1 => itemsR .rev ds M1) := ji_imp (pi_reversed hg hm ha hs) fun W δ M σ H R q r =>
  (Res.step (R := RL c.g) (f := fs) q r).mono fun vs H1 ⟨W1, ds, M1, ex1, p1, rd1, r1⟩ => by
    obtain ⟨it, hit, hR⟩ := itemsR_done p1.sr r1
    unfold items at hit
    split at hit
    all_goals first | (rename_i he; cases he; done) | (cases hit; done) | skip
    obtain ⟨xs, h1, h2⟩ := Option.map_eq_some_iff.mp hit
    subst h2
    obtain ⟨v, ev, rv⟩ := rd1.one
    obtain ⟨a, ws, ea, hq, hr⟩ := sq_of p1.sr rv h1
    subst ea
    have q := hR _ (itv_ok h1 rv)
    rw [← hr.length] at q
    exact ⟨a, ws, ev, hK ▸ hq, hK ▸ q⟩
end

/-! ### targets -/
structure Frm (S : List Nat) (σ σ' : St) : Prop where
  len : σ'.length = σ.length
  at_ : ∀ i, i ∉ S → σ'[i]? = σ[i]?
theorem Frm.refl {S : List Nat} {σ : St} : Frm S σ σ := ⟨rfl, fun _ _ => rfl⟩
def ResG (g : Gd) (cx : Cur) (S : List Nat) (W : Wd) (H : Hp) (σ : St) (Q : St → Hp → Prop) : Rs Sl → Prop
  | some (.ok δ M) => ∀ W' H' σ', Ext g.K W H W' H' → Pre g cx W' H' δ σ' M → Frm S σ σ' → Q σ' H'
  | _ => False
theorem ResG.up {g : Gd} {cx : Cur} {S : List Nat} {W W1 : Wd} {H H1 : Hp} {σ : St} {Q : St → Hp → Prop} {r : Rs Sl} (h : ResG g cx S W H σ Q r) (e : Ext g.K W H W1 H1) : ResG g cx S W1 H1 σ Q r := by
  cases r with
  | none => exact h
  | some o =>
    cases o with
    | ok δ M => exact fun W' H' σ' e' p q => h W' H' σ' (e.trans e') p q
    | exc x M => exact h
theorem ResG.step {α β : Type} {g : Gd} {cx : Cur} {Wx : WX} {R : Wd → Hp → α → β → Prop} {S : List Nat} {W : Wd} {H : Hp} {σ : St} {Q : St → Hp → Prop} {δ : Sl} {M : Store} {f : Sl → Store → Rs α} {k : α → Store → Rs Sl} (p : Pre g cx W H δ σ M) (h : ResG g cx S W H σ Q (bnd (f δ M) k)) :
    tG g cx Wx R f σ H fun b H1 => ∃ W1 a M1, Ext g.K W H W1 H1 ∧ Pre g cx W1 H1 δ σ M1 ∧ R W1 H1 a b ∧ ResG g cx S W1 H1 σ Q (k a M1) := by
  refine ⟨W, δ, M, p, ?_⟩
  cases e : f δ M with
  | none => rw [e] at h; exact h
  | some o =>
    rw [e] at h
    cases o with
    | ok a M1 =>
      have h' : ResG g cx S W H σ Q (k a M1) := h
      exact fun W1 H1 b e1 s1 r1 => ⟨W1, a, M1, e1, p.up e1 s1, r1, h'.up e1⟩
    | exc x M1 => exact h.elim
theorem Pre.set {g : Gd} {cx : Cur} {W : Wd} {H : Hp} {δ : Sl} {σ : St} {M : Store} {i : Nat} {d : D} {v : V} (p : Pre g cx W H δ σ M) (r : Rep g.K W H d v) : Pre g cx W H (δ.set i (some d)) (σ.set i (some v)) M := by
  have hx : d ≠ .exr := fun z => by subst z; exact r
  refine ⟨by rw [List.length_set, List.length_set]; exact p.len, fun j e h he => ?_, p.sr, fun x dd a j h => ⟨(p.cur x dd a j h).1, fun q => ?_⟩⟩
  · by_cases hij : i = j
    · subst hij
      have hl : i < δ.length := by
        have := (List.getElem?_eq_some_iff.mp h).1
        rwa [List.length_set] at this
      rw [List.getElem?_set_self hl] at h
      cases h
      exact ⟨v, List.getElem?_set_self (p.len ▸ hl), r⟩
    · rw [List.getElem?_set_ne hij] at h ⊢
      exact p.sl j e h he
  · by_cases hij : i = j
    · subst hij
      have hl : i < δ.length := by
        have := (List.getElem?_eq_some_iff.mp q).1
        rwa [List.length_set] at this
      rw [List.getElem?_set_self hl] at q
      exact absurd (Option.some.inj (Option.some.inj q)) hx
    · rw [List.getElem?_set_ne hij] at q ⊢
      exact (p.cur x dd a j h).2 q
abbrev JG (X : Cx) (c : Cf) (tg : Expr) (S : List Nat) (f : D → Sl → Store → Rs Sl) : Prop :=
  PG X tg (fun v σ H Q => ∃ W δ M d, Pre c.g c.cx W H δ σ M ∧ Rep c.g.K W H d v ∧ ResG c.g c.cx S W H σ Q (f d δ M))
abbrev JGs (X : Cx) (c : Cf) (ts : List Expr) (S : List Nat) (f : List D → Sl → Store → Rs Sl) : Prop :=
  PGs X ts (fun vs σ H Q => ∃ W δ M ds, Pre c.g c.cx W H δ σ M ∧ Reps c.g.K W H ds vs ∧ ResG c.g c.cx S W H σ Q (f ds δ M))
section
variable {X : Cx} {c : Cf} {tg e o : Expr} {es : List Expr} {S S2 : List Nat} {ft : D → Sl → Store → Rs Sl} {fts : List D → Sl → Store → Rs Sl} {fo fi : Sl → Store → Rs D} {p pos : Pos}
theorem PG.imp {t t' : TG} (h : PG X tg t) (hi : ∀ v σ H Q, t' v σ H Q → t v σ H Q) : PG X tg t' := ⟨fun pins s σ H v u Q I r q => h.run pins s σ H v u Q I r (hi v σ H Q q)⟩
theorem PGs.imp {t t' : TGs} (h : PGs X es t) (hi : ∀ v σ H Q, t' v σ H Q → t v σ H Q) : PGs X es t' := ⟨fun pins s σ H v u Q I r q => h.run pins s σ H v u Q I r (hi v σ H Q q)⟩
theorem jg_name {i : Nat} {x : Str} (hN : X.N.Nodup) (hi : X.N[i]? = some x) (hx : Loc X.env.scope x) (hf : X.fn x = true ∨ X.env.scope.names.lookup x = some .local) :
    JG X c (.Name x pos) [i] (fun d δ M => rok (δ.set i (some d)) M) := PG.imp (pg_name hN hi hx hf) fun v σ H Q ⟨W, δ, M, d, p, r, h⟩ =>
  h W H _ .refl (p.set r) ⟨List.length_set, fun j hj => List.getElem?_set_ne (by simpa [eq_comm] using hj)⟩
theorem jgs_nil : JGs X c [] [] (fun xs δ M => match xs with
    | [] => rok δ M
    | _ => none) := by
  refine PGs.imp pgs_nil fun v σ H Q ⟨W, δ, M, ds, p, r, h⟩ => ?_
  dsimp only at h
  split at h
  · exact ⟨r, h W H σ .refl p .refl⟩
  · exact h.elim
theorem jgs_cons (h1 : JG X c e S ft) (h2 : JGs X c es S2 fts) (hs : (assignEach (e :: es) X.env).map (·.2) = assign e X.env :: (assignEach es X.env).map (·.2)) :
    JGs X c (e :: es) (S ++ S2) (fun xs δ M => match xs with
      | x :: r => bnd (ft x δ M) fun δ' M1 => fts r δ' M1
      | [] => none) := by
  refine PGs.imp (pgs_cons h1 h2 hs) fun v σ H Q ⟨W, δ, M, ds, p, r, h⟩ => ?_
  dsimp only at h
  split at h
  · rename_i d ds
    obtain ⟨v, vs, rfl, r1, r2⟩ := r
    refine ⟨v, vs, rfl, W, δ, M, d, p, r1, ?_⟩
    cases q : ft d δ M with
    | none => rw [q] at h; exact h
    | some z =>
      rw [q] at h
      cases z with
      | exc x M1 => exact h
      | ok δ' M1 =>
        refine fun W1 H1 σ1 e1 p1 k1 => ⟨W1, δ', M1, ds, p1, r2.up e1, ?_⟩
        have h' : ResG c.g c.cx (S ++ S2) W H σ Q (fts ds δ' M1) := h
        cases q2 : fts ds δ' M1 with
        | none => rw [q2] at h'; exact h'
        | some z2 =>
          rw [q2] at h'
          cases z2 with
          | exc x M2 => exact h'
          | ok δ2 M2 =>
            intro W2 H2 σ2 e2 p2 k2
            refine h' W2 H2 σ2 (e1.trans e2) p2 ⟨k2.len.trans k1.len, fun i hi => ?_⟩
            rw [List.mem_append, not_or] at hi
            exact (k2.at_ i hi.2).trans (k1.at_ i hi.1)
  · exact h.elim
theorem jg_tup {k n : Nat} (hc : X.calm = true) (hK : c.g.K = X.K) (h : JGs X c es S fts) (hn : (assignEach es X.env).length = n) (hst : (assignEach es X.env).findIdx? (·.1) = none) :
    JG X c (.Tuple es k pos) S (fun d δ M => match viewS M d with
      | some xs => if xs.length = n then fts xs δ M else none
      | none => none) := by
  refine ⟨fun pins s σ H v u Q I r ⟨W, δ, M, d, p, rd, hw⟩ => ?_⟩
  dsimp only at hw
  split at hw
  · rename_i xs hv
    split at hw
    · rename_i hl
      obtain ⟨a, vs, rfl, hq, hr⟩ := ss_of p.sr rd hv
      rcases hq with ⟨hq, _⟩ | ⟨hq, _⟩
      · exact (pg_unl hc h hn hst).run pins s σ H _ u Q I r ⟨a, vs, rfl, hK ▸ hq, by rw [hr.length]; exact hl, W, δ, M, xs, p, hr, hw⟩
      · exact (pg_tup hc h hn hst).run pins s σ H _ u Q I r ⟨a, vs, rfl, hK ▸ hq, by rw [hr.length]; exact hl, W, δ, M, xs, p, hr, hw⟩
    · exact hw.elim
  · exact hw.elim
theorem jg_sub (ho : JE X c o fo) (hi : JE X c e fi) (ha : ∀ v, assign (.Subscript o e pos) X.env v = (do
      let ov ← holding [v] (eval o X.env)
      let iv ← holding [v, ov] (eval e X.env)
      standAt pos
      holding [v, ov, iv] (setItem ov iv v)
      release [v, ov, iv] [])) : JG X c (.Subscript o e pos) [] (fun y δ M => bnd (fo δ M) fun d1 M1 => bnd (fi δ M1) fun d2 M2 => match d1, d2 with
    | .oid n, .int k => match M2[n]? with
      | some (.lst xs) => match ixN xs.length k with
        | some j => rok δ (M2.set n (.lst (xs.set j y)))
        | none => none
      | _ => none
    | _, _ => none) := PG.imp (pg_sub ho hi set_list ha) fun v σ H Q ⟨W, δ, M, d, p, r, h⟩ =>
  (ResG.step (R := RD c.g) (f := fo) p h).mono fun x H1 ⟨W1, d1, M1, ex1, p1, rd1, r1⟩ => (ResG.step (R := RD c.g) (f := fi) p1 r1).mono fun y H2 ⟨W2, d2, M2, ex2, p2, rd2, r2⟩ => by
    split at r2
    · rename_i n k
      split at r2
      · rename_i xs hk
        split at r2
        · rename_i j hj
          cases rd2
          exact setL_ok p2.sr (rd1.up ex2) ((r.up ex1).up ex2) hk hj fun H' ex3 s3 => r2 W2 H' σ ex3 (p2.up ex3 s3) .refl
        · exact r2.elim
      · exact r2.elim
    · exact r2.elim
/-- o[a:b] = y -/
theorem assignSlc {o a b : Expr} {p2 pos : Pos} {env : Env} (v : Value) : assign (.Subscript o (.Slice (some a) (some b) none p2) pos) env v = (do
      let ov ← holding [v] (eval o env)
      let iv ← holding [v, ov] (eval (.Slice (some a) (some b) none p2) env)
      standAt pos
      holding [v, ov, iv] (setItem ov iv v)
      release [iv, v, ov] []) := rfl
theorem pg_slc {X : Cx} {o e2 e3 : Expr} {p2 pos : Pos} {to t2 t3 : TE} (ho : PE X o to) (h2 : PE X e2 t2) (h3 : PE X e3 t3) : PG X (.Subscript o (.Slice (some e2) (some e3) none p2) pos) (fun v σ H Q => to σ H fun x H1 => tPart t2 σ H1 fun l H2 => tPart t3 σ H2 fun w H3 =>
    ∃ a b xs ys i j, x = .ref a ∧ v = .ref b ∧ H3 a = some (.lst xs) ∧ H3 b = some (.lst ys) ∧ a ≠ b ∧ l = some i ∧ w = some j ∧ 0 ≤ i ∧ i ≤ j ∧ j ≤ (xs.length : Int) ∧ xs.length + ys.length ≤ sizeLine ∧ Q σ (upd H3 a (.lst (xs.take i.toNat ++ ys ++ xs.drop j.toNat)))) := by
  refine ⟨fun pins s σ H v u Q I r h => ?_⟩
  rw [assignSlc]
  refine wpAny_bind (wpAny_holding (thn (ho.run pins s σ H _ I h) fun ov s1 ⟨x, H1, I1, r1, q1⟩ => ?_))
  refine wpAny_bind (wpAny_holding ?_)
  refine wpAny_Slice (thn ((po_some h2).run pins s1 σ H1 _ I1 q1) fun vl s2 ⟨l, H2, I2, pl, q2⟩ => thn ((po_some h3).run pins s2 σ H2 _ I2 q2) fun vu s3 ⟨w, H3, I3, pu, q3⟩ => ?_)
  rw [evalPart_none]
  refine wpAny_pure ?_
  have I4 : Inv X pins σ H3 { s3 with heap := s3.heap.push { cls := .type "slice", data := .fields #[vl, vu, .none] } } := I3.kept (t' := s3.toks) fun b ob q => Heap.get?_push_of_some _ q
  obtain ⟨a, b, xs, ys, i, j, rfl, rfl, ea, eb, hne, rfl, rfl, h0, h1, hj, hz, q⟩ := q3
  obtain rfl : ov = Value.ref a := r1
  obtain rfl : u = Value.ref b := r
  refine wpAny_bind (wpAny_standAt (wpAny_bind (wpAny_holding (set_slice I4 ea eb hne (Heap.IsSliceOf.new ..) ?_ ?_ h0 h1 hj hz fun s' I' => ?_))))
  · cases pl; exact ⟨_, rfl⟩
  · cases pu; exact ⟨_, rfl⟩
  · exact wpAny_release ⟨σ, _, I', q⟩
theorem jg_slc {p2 : Pos} {e2 e3 : Expr} {f2 f3 : Sl → Store → Rs D} (ho : JE X c o fo) (h2 : JE X c e2 f2) (h3 : JE X c e3 f3) : JG X c (.Subscript o (.Slice (some e2) (some e3) none p2) pos) [] (fun y δ M => bnd (fo δ M) fun d1 M1 => bnd (f2 δ M1) fun d2 M2 => match d2 with
    | .int i => bnd (f3 δ M2) fun d3 M3 => match d1, d3, y with
      | .oid n, .int j, .oid m => match M3[n]?, M3[m]? with
        | some (.lst xs), some (.lst ys) => if n ≠ m ∧ 0 ≤ i ∧ i ≤ j ∧ j ≤ (xs.length : Int) ∧ xs.length + ys.length ≤ line then rok δ (M3.set n (.lst (xs.take i.toNat ++ ys ++ xs.drop j.toNat))) else none
        | _, _ => none
      | _, _, _ => none
    | _ => none) := PG.imp (pg_slc ho h2 h3) fun v σ H Q ⟨W, δ, M, d, p, r, h⟩ =>
  (ResG.step (R := RD c.g) (f := fo) p h).mono fun x H1 ⟨W1, d1, M1, ex1, p1, rd1, r1⟩ => (ResG.step (R := RD c.g) (f := f2) p1 r1).mono fun y H2 ⟨W2, d2, M2, ex2, p2', rd2, r2⟩ => by
    split at r2
    · rename_i i
      cases rd2
      refine ⟨i, rfl, (ResG.step (R := RD c.g) (f := f3) p2' r2).mono fun z H3 ⟨W3, d3, M3, ex3, p3, rd3, r3⟩ => ?_⟩
      split at r3
      · rename_i n j m hx1 hx2 hx3
        cases rd3
        split at r3
        · rename_i xs ys hk hk2
          split at r3
          · rename_i hc
            obtain ⟨hnm, c1, c2, c3, c4⟩ := hc
            obtain ⟨a, rfl, ea, vs, hv, t⟩ := ob_of p3.sr ((rd1.up ex2).up ex3) hk
            obtain ⟨b, rfl, eb, ws, hw, t2⟩ := ob_of p3.sr (((r.up ex1).up ex2).up ex3) hk2
            obtain ⟨ex, s'⟩ := p3.sr.write (b := .lst (xs.take i.toNat ++ ys ++ xs.drop j.toNat)) (h := .lst (vs.take i.toNat ++ ws ++ vs.drop j.toNat)) hk ea (by intro z; cases z) fun ex => ⟨_, upd_same, (((t.up ex).take _).append (t2.up ex)).append ((t.up ex).drop _)⟩
            refine ⟨j, rfl, a, b, vs, ws, i, j, rfl, rfl, hv, hw, fun e => hnm (nodupA p3.sr.nd ea (e ▸ eb)), rfl, rfl, c1, c2, by rw [t.length]; exact c3, by rw [t.length, t2.length, sizeLine_line]; exact c4, r3 W3 _ σ ex (p3.up ex s') .refl⟩
          · exact r3.elim
        · exact r3.elim
      · exact r3.elim
    · exact r2.elim
theorem jg_dsub (hu : X.A.units + 1 < cLine) (ho : JE X c o fo) (hi : JE X c e fi) (ha : ∀ v, assign (.Subscript o e pos) X.env v = (do
      let ov ← holding [v] (eval o X.env)
      let iv ← holding [v, ov] (eval e X.env)
      standAt pos
      holding [v, ov, iv] (setItem ov iv v)
      release [v, ov, iv] [])) : JG X c (.Subscript o e pos) [] (fun y δ M => bnd (fo δ M) fun d1 M1 => bnd (fi δ M1) fun d2 M2 => match d1 with
    | .oid n => match setD M2 n d2 y with
      | some M3 => rok δ M3
      | none => none
    | _ => none) := PG.imp (pg_sub ho hi (set_dict hu) ha) fun v σ H Q ⟨W, δ, M, d, p, r, h⟩ =>
  (ResG.step (R := RD c.g) (f := fo) p h).mono fun x H1 ⟨W1, d1, M1, ex1, p1, rd1, r1⟩ => (ResG.step (R := RD c.g) (f := fi) p1 r1).mono fun y H2 ⟨W2, d2, M2, ex2, p2, rd2, r2⟩ => by
    split at r2
    · rename_i n
      split at r2
      · rename_i M3 hj
        obtain ⟨a, H', e1, hp, ex3, s3⟩ := setD_ok p2.sr (rd1.up ex2) rd2 ((r.up ex1).up ex2) hj
        exact ⟨a, H', e1, hp, r2 W2 H' σ ex3 (p2.up ex3 s3) .refl⟩
      · exact r2.elim
    · exact r2.elim
theorem jg_att {cl m : Nat} (hc : Cls X.K (c.g.ca cl)) (hn : NoAttr X.K (c.g.ca cl) (nm m)) (ho : JE X c o fo) : JG X c (.Attribute o (nm m) pos) [] (fun y δ M => bnd (fo δ M) fun d M1 => match d with
    | .oid n => match M1[n]? with
      | some (.ins c' fs) => if c' = cl ∧ fs.length < 1000 then rok δ (M1.set n (.ins cl (setF m y fs))) else none
      | _ => none
    | _ => none) := by
  refine ⟨fun pins s σ H v u Q I r ⟨W, δ, M, d, p, rd, hw⟩ => ?_⟩
  refine PySem.W.kas_attr (thn (ho.run pins s σ H _ I (ResG.step (R := RD c.g) (f := fo) p hw)) fun ov s1 ⟨x, H1, I1, rx, W1, d1, M1, ex1, p1, rd1, r1⟩ => ?_)
  split at r1
  · rename_i n
    split at r1
    · rename_i c' fs hk
      split at r1
      · rename_i hcl
        obtain ⟨rfl, hl⟩ := hcl
        obtain ⟨a, rfl, ea, dx, fv, hv, rf⟩ := ob_of p1.sr rd1 hk
        obtain rfl : ov = Value.ref a := rx
        obtain ⟨ex2, s2⟩ := p1.sr.write (b := .ins c' (setF m d fs)) (h := .ins (c.g.ca c') dx (putF (nm m) v fv)) hk ea (by intro z; cases z) fun ex => ⟨dx, _, upd_same, (rf.mono ex.toExt0).put ((rd.up ex1).up ex)⟩
        exact setattr_ok I1 hv hc hn (by rw [rf.length]; exact hl) r fun s3 I3 => ⟨σ, _, I3, r1 W1 _ σ ex2 (p1.up ex2 s2) .refl⟩
      · exact r1.elim
    · exact r1.elim
  · exact r1.elim
end
end Mo
/-! ### enumerate(reversed(text)) -/
namespace RS
open PySem PySem.Spec PyProof.Rows
theorem norev_str : typeLookup (.type "str") "__reversed__" = pure none := by rw [typeLookup_type, builtinLookup_eq_fast]; kernel_rfl
theorem get_str : typeLookup (.type "str") "__getitem__" = pure (some (.builtin "str.__getitem__")) := by rw [typeLookup_type, builtinLookup_eq_fast]; kernel_rfl
def rsObj (x : Str) (t : Tok) (i : Int) : Obj := { cls := .type "reversed", data := .fields #[.str x t, rawInt i] }
/-- reversed(text), the next place i -/
def IsRs (h : Heap) (a : Addr) (x : Str) (t : Tok) (i : Int) : Prop := ∃ o, h.get? a = some o ∧ o.cls = .type "reversed" ∧ o.data = .fields #[.str x t, rawInt i]
theorem IsRs.at {h h' : Heap} {a : Addr} {x : Str} {t : Tok} {i : Int} (y : IsRs h a x t i) (e : ∀ o, h.get? a = some o → h'.get? a = some o) : IsRs h' a x t i := let ⟨o, ho, r⟩ := y; ⟨o, e _ ho, r⟩
section
variable {prog : Program} {w : World} {A : Around} {E : Value → Shared → Prop} {s : Shared}
theorem IsRs.typeIs {a : Addr} {x : Str} {t : Tok} {i : Int} (y : IsRs s.heap a x t i) : s.TypeIs (.ref a) "reversed" := let ⟨o, ho, hc, _⟩ := y; ⟨o, ho, hc⟩
theorem code_reversed_str {x : Str} {t : Tok} {Q₁ : Value → Shared → Prop} (hfit : ¬ (x.length : Int) ≥ 2 ^ 63)
    (h : Q₁ (.ref s.heap.objs.size) { s with heap := s.heap.push (rsObj x t ((x.length : Int) - 1)), toks := s.toks + 1 + 1 }) :
    codeAny (model prog w) A (.call (.builtin "reversed.__new__") ⟨[.type "reversed", .str x t], []⟩) (wants Q₁ E) s := by
  have hT : s.TypeIs (.str x t) "str" := typeIs_str s x t
  refine codeAny_of_tree ?_
  show wpAny _ A.in1 (do checkBuiltinCall "reversed.__new__" ⟨[.type "reversed", .str x t], []⟩; again (.builtin "reversed.__new__" ⟨[.type "reversed", .str x t], []⟩)) _ _ s
  refine wpAny_bind (wpAny_of_eq (F.newCall_reversed_1 _) (wpAny_pure ⟨plainId_quiet F.plain_reversed_new _, codeAny_builtin F.entry_reversed_new ?_⟩))
  rw [Around.under_plainId F.plain_reversed_new _]
  unfold Builtin.«reversed.__new__»
  refine wpAny_bind (wpAny_of_eq (newClass_reversed _) ?_)
  try dsimp only
  refine wpAny_bind (wpAny_of_eq (a := ()) (by first | rfl | kernel_rfl) ?_)
  try dsimp only
  refine wpAny_bind (wpAny_of_eq (a := ()) (by first | rfl | kernel_rfl) ?_)
  try dsimp only
  refine wpAny_bind (wpAny_specialOf hT norev_str ?_)
  try dsimp only
  refine wpAny_bind ?_
  wp_delta
  refine wpAny_bind (wpAny_isInstance (T := "str") (U := "dict") (b := false) hT PySem.F.sub_str_dict ?_)
  try dsimp only
  try rw [if_neg Bool.false_ne_true]
  try dsimp only
  refine wpAny_bind (wpAny_specialOf hT get_str ?_)
  try dsimp only
  try rw [if_pos (by decide +kernel)]
  refine wpAny_pure ?_
  try dsimp only
  try rw [if_neg (by decide)]
  try dsimp only
  refine wpAny_bind (P.len_str hfit ?_)
  refine wpAny_bind (wpAny_of_eq (a := some ((x.length : Nat) : Int)) rfl ?_)
  try dsimp only
  refine wpAny_bind ?_
  show wpAny _ _ (newObj (.type "reversed") (.fields #[.str x t, rawInt ((x.length : Int) - 1)])) _ _ _
  refine wpAny_newObj_type ?_
  exact wpAny_pure h
theorem call_reversed_str {x : Str} {t : Tok} {Q : Value → Shared → Prop} (hfit : ¬ (x.length : Int) ≥ 2 ^ 63)
    (h : Q (.ref s.heap.objs.size) { s with heap := s.heap.push (rsObj x t ((x.length : Int) - 1)), toks := s.toks + 1 + 1 }) : wpAny (model prog w) A (call (.type "reversed") [.str x t]) Q E s := by
  refine callType_codes (Q₁ := fun obj s₁ => s₁.TypeIs obj "reversed" ∧ Q obj s₁) RT.called_rt (F.typeCall_reversed_1 _) F.entry_object_init
    (code_reversed_str (A := A.in1) hfit ⟨⟨_, Heap.get?_push_size _ rfl, rfl⟩, h⟩) fun obj s₁ h₁ => ?_
  exact ⟨h₁.1, F.args_object_init_2 obj _, object_init_meets RT.called_rt.init.lookup RT.called_rt.made (by decide) prog w A.in1 _ s₁ ⟨h₁.1, rfl, h₁.2⟩⟩
theorem nextOf_rs_item {it : Addr} {x : Str} {t : Tok} {i : Nat} {c : Nat} {Q : Value → Shared → Prop} (hit : IsRs s.heap it x t (i : Int)) (hx : x.cps[i]? = some c) (hsz : x.length ≤ sizeLine)
    (hQ : ∀ h' u, IsRs h' it x t ((i : Int) - 1) → Heap.SameBut it s.heap h' → Q (.str ⟨#[c]⟩ u) { s with heap := h', toks := s.toks + 1 + 1 }) : wpAny (model prog w) A (Builtin.SmallTypes.nextOf (.ref it)) Q E s := by
  obtain ⟨o, ho, hc, hd⟩ := id hit
  have hi : i < x.length := (Array.getElem?_eq_some_iff.mp hx).1
  have hT : s.TypeIs (.str x t) "str" := typeIs_str s x t
  rw [sizeLine_eq] at hsz
  unfold Builtin.SmallTypes.nextOf
  refine wpAny_bind (wpAny_callSpecial?_slot (name := Str.ofString "__next__") hit.typeIs RT.slot_rt_next
    (wpAny_call_entry RT.slot_rt_next hit.typeIs RT.entry_rt_next ?_ (RT.args_rt_next _)))
  unfold Builtin.«reversed.__next__»
  refine wpAny_bind (wpAny_of_eq (a := (Value.ref it, [])) rfl ?_)
  try dsimp only
  refine wpAny_bind (wpAny_field ho hd (x := .str x t) rfl ?_)
  try dsimp only
  refine wpAny_bind (wpAny_field ho hd (x := rawInt (i : Int)) rfl ?_)
  show wpAny _ _ (if (i : Int) < 0 then _ else _) _ _ s
  rw [if_neg (by omega)]
  try dsimp only
  refine wpAny_bind (wpAny_specialOf hT get_str ?_)
  try dsimp only
  try rw [if_neg (by decide)]
  try dsimp only
  refine wpAny_bind (wpAny_mkInt ?_)
  refine wpAny_bind (wpAny_attempt ?_)
  have fin : (seqIndex? (i : Int) x.length).bind (x.cps[·]?) = some c := by
    rw [seqIndex_of (by omega) (by omega)]; exact hx
  refine P.getItem_str (s := { s with toks := s.toks + 1 }) (by
    have h1 : ¬ (i : Int) < -(2 ^ 63 : Int) := by omega
    have h2 : ¬ (i : Int) ≥ 2 ^ 63 := by omega
    rw [decide_eq_false h1, decide_eq_false h2]; rfl) fin ?_
  try dsimp only
  refine wpAny_bind (wpAny_field (s := { s with toks := s.toks + 1 + 1 }) ho hd (x := rawInt (i : Int)) rfl ?_)
  try dsimp only
  refine wpAny_bind (wpAny_setField (s := { s with toks := s.toks + 1 + 1 }) ho hd (by simp) ?_)
  first
  | refine wpAny_pure ⟨_, rfl, wpAny_pure (hQ _ _ ?_ (Heap.SameBut.update ..))⟩
  | refine wpAny_bind (wpAny_pure (wpAny_pure ⟨_, rfl, wpAny_pure (hQ _ _ ?_ (Heap.SameBut.update ..))⟩))
  exact ⟨_, Heap.get?_update_self _ ho (Obj.isFreed_of_fields (Obj.data_mapFields hd _)), (Obj.cls_mapFields ..).trans hc, by
    rw [Obj.data_mapFields hd]; simp⟩
theorem nextOf_rs_end {it : Addr} {x : Str} {t : Tok} {Q : Value → Shared → Prop} (hh : A.handled = none) (hit : IsRs s.heap it x t (-1))
    (hE : ∀ h' e, Heap.ExtBut it s.heap h' → (∃ o, h'.get? e = some o ∧ o.cls = .type "StopIteration") → E (.ref e) { s with heap := h' }) : wpAny (model prog w) A (Builtin.SmallTypes.nextOf (.ref it)) Q E s := by
  obtain ⟨o, ho, hc, hd⟩ := id hit
  unfold Builtin.SmallTypes.nextOf
  refine wpAny_bind (wpAny_callSpecial?_slot (name := Str.ofString "__next__") hit.typeIs RT.slot_rt_next
    (wpAny_call_entry RT.slot_rt_next hit.typeIs RT.entry_rt_next ?_ (RT.args_rt_next _)))
  unfold Builtin.«reversed.__next__»
  refine wpAny_bind (wpAny_of_eq (a := (Value.ref it, [])) rfl ?_)
  try dsimp only
  refine wpAny_bind (wpAny_field ho hd (x := .str x t) rfl ?_)
  try dsimp only
  refine wpAny_bind (wpAny_field ho hd (x := rawInt (-1)) rfl ?_)
  show wpAny _ _ (if (-1 : Int) < 0 then _ else _) _ _ s
  rw [if_pos (by decide)]
  try dsimp only
  refine wpAny_bind (wpAny_rule ?_)
  refine wpAny_bind ?_
  wp_delta
  refine wpAny_bind (wpAny_setField ho hd (by simp) ?_)
  have ho2 := Heap.get?_update_self (Obj.mapFields (·.setIfInBounds 1 (rawInt (-1)))) ho (Obj.isFreed_of_fields (Obj.data_mapFields hd _))
  refine wpAny_setField (s := { s with heap := s.heap.update it (Obj.mapFields (·.setIfInBounds 1 (rawInt (-1)))) }) ho2 (Obj.data_mapFields hd _) (by simp) ?_
  try dsimp only
  first
  | show wpAny _ _ (newExc (.type "StopIteration") [] >>= _) _ _ _
  | (refine wpAny_bind ?_; show wpAny _ _ (newExc (.type "StopIteration") [] >>= _) _ _ _)
  | (refine wpAny_bind ?_; wp_delta; show wpAny _ _ (newExc (.type "StopIteration") [] >>= _) _ _ _)
  refine wpAny_bind ?_
  simp only [newExc, newTuple]
  refine wpAny_bind (wpAny_newObj_type ?_ (by size_fits))
  refine wpAny_bind (m := firstArgMember _ _) (wpAny_of_eq (a := Value.none) (by first | rfl | (simp only [firstArgMember]; rfl)) ?_)
  refine wpAny_newObj_type ?_ (by size_fits)
  simp only [raiseNew]
  refine wpAny_bind (wpAny_handled ?_)
  first | rw [show A.in1.handled = none from hh] | rw [hh]
  refine wpAny_bind (wpAny_pure (wpAny_throw ?_))
  refine hE _ _ ?_ ⟨_, Heap.get?_push_size _ rfl, rfl⟩
  refine ((?_ : Heap.ExtBut it s.heap _).push _).push _
  exact fun b ob hb e => (Heap.get?_update_other _ _ (Ne.symm hb)).trans ((Heap.get?_update_other _ _ (Ne.symm hb)).trans e)
end
theorem Draws.rs {prog : Program} {w : World} {A : Around} (hh : A.handled = none) (it : Addr) (x : Str) (t : Tok) (hsz : x.length ≤ sizeLine) :
    Draws prog w A it [it] x.length (fun i v => ∃ c u, x.cps[x.length - 1 - i]? = some c ∧ v = .str ⟨#[c]⟩ u) (fun i h => i ≤ x.length ∧ IsRs h it x t ((x.length : Int) - 1 - (i : Nat))) where
  live := fun _ _ st => let ⟨o, ho, _⟩ := st.2; ⟨o, ho⟩
  frame := fun _ _ _ st hk => ⟨st.1, st.2.at fun o e => hk it (by simp) o e⟩
  item := fun i s Q E hi st hQ => by
    obtain ⟨h1, h2⟩ := st
    have e1 : (x.length : Int) - 1 - ((i : Nat) : Int) = ((x.length - 1 - i : Nat) : Int) := by omega
    rw [e1] at h2
    have hlt : x.length - 1 - i < x.cps.size := by have : x.cps.size = x.length := rfl; omega
    refine nextOf_rs_item h2 (c := x.cps[x.length - 1 - i]) (Array.getElem?_eq_getElem hlt) hsz fun h' u st' sb => ?_
    refine hQ _ h' _ ⟨_, u, Array.getElem?_eq_getElem hlt, rfl⟩ ⟨hi, ?_⟩ sb
    have e2 : (x.length : Int) - 1 - ((i + 1 : Nat) : Int) = ((x.length - 1 - i : Nat) : Int) - 1 := by omega
    rw [e2]; exact st'
  done := fun s Q E st hE => by
    obtain ⟨h1, h2⟩ := st
    have e1 : (x.length : Int) - 1 - ((x.length : Nat) : Int) = -1 := by omega
    rw [e1] at h2
    exact nextOf_rs_end hh h2 hE
theorem iter_rs {prog : Program} {w : World} {A : Around} {E : Value → Shared → Prop} {s : Shared} {it : Addr} {x : Str} {t : Tok} {i : Int} {Q : Value → Shared → Prop} (hit : IsRs s.heap it x t i) (h : Q (.ref it) s) : wpAny (model prog w) A (pyIter (.ref it)) Q E s := by
  refine wpAny_pyIter_slot hit.typeIs RT.slot_rt_iter (wpAny_call_entry RT.slot_rt_iter hit.typeIs RT.entry_rt_iter ?_ (RT.args_rt_iter _))
  show wpAny _ _ (ret (.ref it)) _ _ s
  exact wpAny_pure ⟨_, rfl, "reversed", _, hit.typeIs, RT.slot_rt_next.lookup, h⟩
end RS
namespace Mo
open PySem PySem.Spec L2
open PyProof.Rows hiding St
open RS
set_option maxHeartbeats 8000000 in
theorem meets_enum_self {it : Addr} {H : Heap → Prop} (B : ∀ (prog : Program) (w : World) (A : Around) (E : Value → Shared → Prop) (s : Shared) (Q : Value → Shared → Prop), H s.heap → Q (.ref it) s → wpAny (model prog w) A (pyIter (.ref it)) Q E s) :
    Meets (Builtin.«enumerate.__new__» ⟨[.type "enumerate", .ref it], []⟩) (fun _ R s => H s.heap ∧
      R (.ok (.ret (.ref s.heap.objs.size))) { s with heap := s.heap.push { cls := .type "enumerate", data := .fields #[.none, .bool false, .ref it, rawInt 0, .none, .none] } }) :=
  .of_wp fun prog w A R s h => by
    obtain ⟨hp, g, d, tk, os⟩ := s; obtain ⟨h1, h⟩ := h
    have hsub := sub_enumerate
    have q1 : ∀ {A' : Around} {E : Value → Shared → Prop} {Q : Value → Shared → Prop}, Q (.ref it) ⟨hp, g, d, tk, os⟩ → wpAny (model prog w) A' (pyIter (.ref it)) Q E ⟨hp, g, d, tk, os⟩ :=
      fun q => B prog w _ _ ⟨hp, g, d, tk, os⟩ _ h1 q
    wp_walk using q1
    refine wpAny_stack_any fun st => wpAny_pure ?_
    split
    · rename_i c _ _ _ _ _
      cases (c == Value.type "enumerate")
      · wp_walk using q1
        exact ⟨_, rfl, h⟩
      · wp_walk using q1
        exact ⟨_, rfl, h⟩
    · wp_walk using q1
      exact ⟨_, rfl, h⟩
section
variable {prog : Program} {w : World} {A : Around} {E : Value → Shared → Prop} {s : Shared}
theorem call_enumerate_rs {it : Addr} {x : PySem.Str} {t : Tok} {i : Int} {Q : Value → Shared → Prop} (hit : IsRs s.heap it x t i)
    (h : ∀ h', IsEnum h' s.heap.objs.size it 0 .none → IsRs h' it x t i → h'.objs.size = s.heap.objs.size + 1 →
      (∀ b o, s.heap.get? b = some o → h'.get? b = some o) → Q (.ref s.heap.objs.size) { s with heap := h' }) :
    wpAny (model prog w) A (call (.type "enumerate") [.ref it]) Q E s := by
  refine callType_new F.called_enumerate (by decide) (F.typeCall_enumerate_1 _) (F.newCall_enumerate_1 _) (fun obj => F.args_object_init_2 obj _) F.entry_enumerate_new
    (meets_enum_self (it := it) (H := fun h => IsRs h it x t i) (fun prog w A E s Q h1 q => iter_rs h1 q)) ⟨hit, ?_⟩
  have he : IsEnum (s.heap.push { cls := .type "enumerate", data := .fields #[.none, .bool false, .ref it, rawInt 0, .none, .none] }) s.heap.objs.size it 0 .none :=
    Heap.get?_push_size s.heap (o := { cls := .type "enumerate", data := .fields #[.none, .bool false, .ref it, rawInt 0, .none, .none] }) rfl
  refine ⟨⟨_, he, rfl⟩, h _ he (hit.at fun o e => Heap.get?_push_of_some _ e) (Heap.size_push ..) fun b o x => Heap.get?_push_of_some _ x⟩
theorem enumS_end {e it : Addr} {x : PySem.Str} {t : Tok} {c : Int} {old : Value} {Q : Option Value → Shared → Prop} (hh : A.in1.handled = none) (he : IsEnum s.heap e it c old) (hit : IsRs s.heap it x t (-1))
    (hQ : ∀ h', Heap.ExtBut it s.heap h' → Q none { s with heap := h' }) : wpAny (model prog w) A (pyNext (.ref e)) Q E s := by
  have hT : s.TypeIs (.ref e) "enumerate" := ⟨_, he, rfl⟩
  unfold pyNext
  refine wpAny_bind (wpAny_attempt (wpAny_callSpecial?_slot (name := Str.ofString "__next__") hT F.slot_enumerate_next
    (wpAny_call_entry F.slot_enumerate_next hT F.entry_enumerate_next ?_ (F.args_enumerate_next_1 _))))
  show wpAny _ _ (field (.ref e) 2 >>= _) _ _ _
  refine wpAny_bind (wpAny_field he rfl (x := .ref it) rfl ?_)
  refine wpAny_bind (nextOf_rs_end hh hit fun h' x he' hx' => ?_)
  obtain ⟨o, ho, hc⟩ := hx'
  refine wpAny_bind (wpAny_isInstance (T := "StopIteration") (b := true) ⟨o, ho, hc⟩ isSubtype_stop ?_)
  exact wpAny_pure (hQ _ he')
end
def IteS (x : PySem.Str) : It :=
  ⟨fun i _ => i < x.length, fun i H v H' => ∃ T c, v = .ref T ∧ H T = none ∧ H' = upd H T (.tup [.int (i : Nat), .str ⟨#[c]⟩]) ∧ x.cps[x.length - 1 - i]? = some c, fun i _ => x.length ≤ i⟩
theorem turn_enumS {P : Program} {w : World} {K : PySem.W.Frag} {elts : List Expr} {kk : Nat} {tpos : Pos} (e it : Addr) (x : PySem.Str) (t : Tok) (hsz : x.length ≤ sizeLine) :
    Turn P w K (.Tuple elts kk tpos) (IteS x) [e, it] e (fun i h => (∃ old, IsEnum h e it ((i : Nat) : Int) old) ∧ (i ≤ x.length ∧ IsRs h it x t ((x.length : Int) - 1 - (i : Nat))) ∧ e ≠ it) where
  mem := by simp
  obj := fun i h st b hb => by
    obtain ⟨⟨old, he⟩, ⟨_, ⟨o, ho, hc, hd⟩⟩, _⟩ := st
    have e' : b = e ∨ b = it := by simpa using hb
    rcases e' with z | z
    · rw [z]; exact ⟨_, he, fun v q => nomatch q⟩
    · rw [z]; exact ⟨o, ho, fun v q => by rw [hd] at q; cases q⟩
  keep := fun i h h' st k => let ⟨⟨old, he⟩, hi, hne⟩ := st; ⟨⟨old, k e (by simp) _ he⟩, ⟨hi.1, hi.2.at fun o q => k it (by simp) o q⟩, hne⟩
  item := by
    intro X hP hw hK hc i pins s σ H E I hf st hg
    subst hP hw hK
    obtain ⟨⟨old, he⟩, hit, hne⟩ := st
    have hlt : i < x.length := hg
    have hel : e < s.heap.objs.size := Heap.lt_size he
    have hil : it < s.heap.objs.size := by obtain ⟨_, _, q, _⟩ := hit; exact Heap.lt_size q
    have hh : X.A.in1.handled = none := I.ok.hd hc
    have D := Draws.rs (prog := X.prog) (w := X.w) (A := X.A.in1) hh it x t hsz
    refine wpAny_pyNext_enum_itemC D he hit hlt hne (by simp [hne]) fun y h' tk hy ho hst' hT hsz hk => ?_
    obtain ⟨c, u, hcx, rfl⟩ := hy
    have hit' := hst'
    refine ⟨_, rfl, wpAny_letOwnedTupleGo_enum (s := { s with heap := h', toks := tk + 1 }) ho fun h'' he' sb => ?_⟩
    have hT2 : h''.get? s.heap.objs.size = some { cls := .type "tuple", data := .seq #[.int i tk, .str ⟨#[c]⟩ u] } := (sb.2 _ (Nat.ne_of_gt hel)).trans hT
    have new : ObjOk X.prog X.w (upd H s.heap.objs.size (.tup [.int (i : Nat), .str ⟨#[c]⟩])) h'' s.heap.objs.size (.tup [.int (i : Nat), .str ⟨#[c]⟩]) :=
      ⟨by show 2 ≤ sizeLine; decide, [.int i tk, .str ⟨#[c]⟩ u], .cons ⟨_, rfl⟩ (.cons ⟨_, rfl⟩ .nil), ⟨_, hT2, rfl, _, rfl⟩⟩
    have I1 : Inv X pins σ (upd H s.heap.objs.size (.tup [.int (i : Nat), .str ⟨#[c]⟩])) { s with heap := h'', toks := tk + 1 } :=
      I.turnedNew (ch := [e, it]) (fun b ob hb q => (sb.2 b (fun z => hb (by simp [z]))).trans (hk b ob (fun z => hb (by simp [z])) (fun z => hb (by simp [z])) q)) hf (Nat.le_refl _) new
    refine ⟨.ref s.heap.objs.size, _, I1, rfl, ⟨_, c, rfl, I.hok.fresh (Nat.le_refl _), rfl, hcx⟩, ⟨⟨.str ⟨#[c]⟩ u, ?_⟩, ⟨hit'.1, hit'.2.at fun o q => (sb.2 it (Ne.symm hne)).trans q⟩, hne⟩, fun b hb => ?_⟩
    · have e1 : ((i + 1 : Nat) : Int) = (i : Int) + 1 := by omega
      rw [e1]; exact he'
    · have hb' : b < s.heap.objs.size := by
        have e' : b = e ∨ b = it := by simpa using hb
        rcases e' with z | z
        · rw [z]; exact hel
        · rw [z]; exact hil
      rw [upd_ne (Nat.ne_of_lt hb')]
      exact (hf b hb).1
  done := by
    intro X hP hw hK hc i pins s σ H E I hf st hg
    subst hP hw hK
    obtain ⟨⟨old, he⟩, ⟨hi, hit⟩, hne⟩ := st
    have hge : x.length ≤ i := hg
    have ei : (x.length : Int) - 1 - ((i : Nat) : Int) = -1 := by omega
    rw [ei] at hit
    obtain ⟨f0, f1, f2, f3, f4, f5⟩ := hf it (by simp)
    have hh : X.A.in1.handled = none := I.ok.hd hc
    exact enumS_end hh he hit fun h' eb => ⟨rfl, I.turned (t' := s.toks) (fun b o hb q => eb b o hb q) f0 f1 f3 f4 f5⟩
  self := fun A i s Q E st h => let ⟨⟨_, he⟩, _⟩ := st; wpAny_pyIter_enum he h
def iEnumRS (te : TE) : TI := fun σ H R => te σ H fun v H1 => ∃ x : PySem.Str, v = .str x ∧ x.length ≤ sizeLine ∧ R (IteS x) H1
theorem pi_enumRS {X : Cx} {e : Expr} {te : TE} {p p2 pos pos2 tpos : Pos} {elts : List Expr} {kk : Nat} (hg : Gl X "enumerate") (hm : X.mg "enumerate" = none) (hg2 : Gl X "reversed") (hm2 : X.mg "reversed" = none) (he : PE X e te)
    (hs : starEach [e] X.env = (false, eval e X.env) :: starEach [] X.env) :
    PI X (.Tuple elts kk tpos) (.Call (.Name "enumerate" p) [.Call (.Name "reversed" p2) [e] [] pos2] [] pos) (iEnumRS te) := by
  refine ⟨fun pins s σ H R I h => ?_⟩
  refine Call_ (ld_blt I hg hm boot_enumerate (PyProof.Rows.callWith_type1 (args_cons (Call_ (ld_blt I hg2 hm2 PyProof.Rows.boot_reversed (PyProof.Rows.callWith_type1 (args_cons (thn (he.run pins s σ H _ I h) fun u s1 ⟨v, H1, I1, r1, q1⟩ => args_nil ?_) hs) hs rfl))) rfl) rfl rfl))
  obtain ⟨x, ev, hsz, q⟩ := q1
  subst ev
  obtain ⟨t, rfl⟩ := r1
  have hz := hsz
  rw [sizeLine_eq] at hz
  refine call_reversed_str (by omega) (args_nil ?_)
  have hit : IsRs (s1.heap.push (rsObj x t ((x.length : Int) - 1))) s1.heap.objs.size x t ((x.length : Int) - 1) := ⟨_, Heap.get?_push_size _ rfl, rfl, rfl⟩
  refine call_enumerate_rs (s := { s1 with heap := s1.heap.push (rsObj x t ((x.length : Int) - 1)), toks := s1.toks + 1 + 1 }) hit fun h' he' hit' hsz' hk => wpAny_pyIter_enum he' ?_
  have zp : (s1.heap.push (rsObj x t ((x.length : Int) - 1))).objs.size = s1.heap.objs.size + 1 := Heap.size_push ..
  have k0 : ∀ b o, s1.heap.get? b = some o → h'.get? b = some o := fun b o q => hk b o (Heap.get?_push_of_some _ q)
  have I2 : Inv X pins σ H1 { s1 with heap := h', toks := s1.toks + 1 + 1 } := I1.kept (t' := s1.toks + 1 + 1) k0
  have e0 : (x.length : Int) - 1 - ((0 : Nat) : Int) = (x.length : Int) - 1 := by omega
  refine ⟨_, [(s1.heap.push (rsObj x t ((x.length : Int) - 1))).objs.size, s1.heap.objs.size], _, _, H1, rfl, I2, turn_enumS (s1.heap.push (rsObj x t ((x.length : Int) - 1))).objs.size s1.heap.objs.size x t hsz, ⟨⟨.none, he'⟩, ⟨Nat.zero_le _, by rw [e0]; exact hit'⟩, by rw [zp]; exact Nat.succ_ne_self _⟩, fun b hb => ?_, q⟩
  have e' : b = (s1.heap.push (rsObj x t ((x.length : Int) - 1))).objs.size ∨ b = s1.heap.objs.size := by simpa using hb
  have hle : s1.heap.objs.size ≤ b := by
    rcases e' with z | z
    · rw [z, zp]; exact Nat.le_add_right _ _
    · rw [z]; exact Nat.le_refl _
  exact I1.fpOk hle (I1.hok.fresh hle)
section
variable {X : Cx} {c : Cf} {e : Expr} {f : Sl → Store → Rs D} {p p2 pos pos2 : Pos}
theorem ite_okS {g : Gd} {W : Wd} {H : Hp} (x : PySem.Str) : ItOk g W H ⟨(x.cps.toList.reverse.map fun c => D.str ⟨#[c]⟩).zipIdx.map fun p => .tup [.int (p.2 : Int), p.1], none⟩ (IteS x) := by
  have hl : ((x.cps.toList.reverse.map fun c => D.str ⟨#[c]⟩).zipIdx.map fun p : D × Nat => D.tup [.int (p.2 : Int), p.1]).length = x.length := by simp; rfl
  refine ⟨fun i W' H' M' hi e s q => ?_, fun i d W' H' M' v H'' hd e s q y => ?_, fun W' H' M' e s q => ?_⟩
  · show i < x.length
    rw [← hl]; exact hi
  · obtain ⟨T, c, e1, hT, e2, y⟩ := y
    subst e1; subst e2
    rw [List.getElem?_map, List.getElem?_zipIdx, List.getElem?_map] at hd
    have hi : i < x.cps.toList.length := by
      have h2 : x.length - 1 - i < x.cps.size := (Array.getElem?_eq_some_iff.mp y).1
      rcases Nat.lt_or_ge i x.cps.toList.reverse.length with h | h
      · simpa using h
      · rw [List.getElem?_eq_none h] at hd; cases hd
    have y2 : x.cps.toList.reverse[i]? = some c := by
      rw [List.getElem?_reverse hi, ← y, ← Array.getElem?_toList]; rfl
    rw [y2] at hd
    cases hd
    obtain ⟨ex, s1⟩ := s.beside (o := .tup [.int (i : Nat), .str ⟨#[c]⟩]) hT
    refine ⟨W', ex, s1, T, _, rfl, upd_same, ?_⟩
    refine .cons ?_ (.cons rfl .nil)
    show _ = V.int _
    simp
  · show x.length ≤ _
    rw [hl]; exact Nat.le_refl _
theorem ji_enumRS {elts : List Expr} {kk : Nat} {tpos : Pos} (hg : Gl X "enumerate") (hm : X.mg "enumerate" = none) (hg2 : Gl X "reversed") (hm2 : X.mg "reversed" = none) (he : JE X c e f) (hs : starEach [e] X.env = (false, eval e X.env) :: starEach [] X.env) :
    JI X c (.Tuple elts kk tpos) (.Call (.Name "enumerate" p) [.Call (.Name "reversed" p2) [e] [] pos2] [] pos) (fun δ M => bnd (f δ M) fun d M1 => itemsR .enumR [d] M1) := ji_imp (pi_enumRS hg hm hg2 hm2 he hs) fun W δ M σ H R q r =>
  (Res.step (R := RD c.g) (f := f) q r).mono fun v H1 ⟨W1, d, M1, ex1, p1, rd1, r1⟩ => by
    obtain ⟨it, hit, hR⟩ := itemsR_done p1.sr r1
    cases d with
    | str x =>
      have hit : (if x.length ≤ line then some (⟨(x.cps.toList.reverse.map fun c => D.str ⟨#[c]⟩).zipIdx.map fun p => .tup [.int (p.2 : Int), p.1], none⟩ : Items) else none) = some it := hit
      split at hit
      · rename_i hl
        cases hit
        cases rd1
        exact ⟨x, rfl, by rw [sizeLine_line]; exact hl, hR _ (ite_okS x)⟩
      · cases hit
    | _ => cases hit
end
end Mo
/-! Mo7: comprehensions. -/
namespace Mo
open PySem PySem.Spec L2
open PyProof.Rows hiding St

section
variable {g : Gd} {cx : Cur} {W W' W1 : Wd} {H H' H1 : Hp} {σ : St} {δ : Sl} {M M' : Store} {D₀ : Addr}
/-- a private list -/
theorem SR.priv (s : SR g W H M) {p : Addr} {vs : List V} (hp : H p = none) : Ext g.K W H { W with pr := fun a => W.pr a ∨ a = p } (upd H p (.lst vs)) ∧ SR g { W with pr := fun a => W.pr a ∨ a = p } (upd H p (.lst vs)) M := by
  obtain ⟨e, s1⟩ := s.beside (o := .lst vs) hp
  obtain ⟨nf, na⟩ := s.fresh hp
  refine ⟨⟨⟨e.ad, e.fz, e.fl, e.tups, e.frzs, e.xds⟩, fun a h => .inl h, e.pl⟩, s1.len, s1.nd, fun n o a h1 h2 => (s1.ob n o a h1 h2).mono (W := W) (W' := { W with pr := fun a => W.pr a ∨ a = p }) ⟨fun _ _ h => h, fun _ h => h, fun _ _ => rfl, fun _ _ h => h, fun _ _ _ h => h, fun _ _ h => h⟩ rfl, s1.nf, s1.al, s1.fa, fun a h => ?_⟩
  rcases h with h | h
  · exact s1.pa a h
  · subst h
    exact ⟨by rw [upd_same]; simp, nf, na⟩
/-- it grows -/
theorem SR.grow (s : SR g W H M) {p : Addr} {vs ws : List V} (hp : W.pr p) (hl : H p = some (.lst vs)) : Ext0 g.K W H W (upd H p (.lst ws)) ∧ SR g W (upd H p (.lst ws)) M := by
  obtain ⟨_, nf, na⟩ := s.pa p hp
  have e : Ext0 g.K W H W (upd H p (.lst ws)) := ⟨fun _ _ h => h, fun _ h => h, fun a h => upd_ne (show a ≠ p from fun z => nf (z ▸ h)),
    fun a xs h => by rw [upd_ne (show a ≠ p from fun z => by rw [z, hl] at h; cases h)]; exact h,
    fun a o u h => by rw [upd_ne (show a ≠ p from fun z => by rw [z, hl] at h; cases h)]; exact h,
    fun a fs h => by rw [upd_ne (show a ≠ p from fun z => by rw [z, hl] at h; cases h)]; exact h⟩
  have ne : ∀ (n : Nat) a, W.ad[n]? = some a → a ≠ p := fun n a h z => na (z ▸ List.mem_of_getElem? h)
  refine ⟨e, s.len, s.nd, fun n o a h1 h2 => (s.ob n o a h1 h2).mono e (upd_ne (ne n a h2)), s.nf, fun n a h => by rw [upd_ne (ne n a h)]; exact s.al n a h, fun a h => ?_, fun a h => ?_⟩
  · rw [upd_ne (show a ≠ p from fun z => nf (z ▸ h))]; exact s.fa a h
  · by_cases z : a = p
    · subst z; rw [upd_same]; exact ⟨by simp, nf, na⟩
    · rw [upd_ne z]; exact s.pa a h
theorem Ext.grow (e : Ext g.K W1 H1 W H) (s : SR g W H M) {p : Addr} {vs ws : List V} (hp : W.pr p) (hl : H p = some (.lst vs)) (np : ¬ W1.pr p) : Ext g.K W1 H1 W (upd H p (.lst ws)) :=
  ⟨e.toExt0.trans (s.grow hp hl).1, e.pr, fun a h => by rw [upd_ne (show a ≠ p from fun z => np (z ▸ h))]; exact e.pl a h⟩
/-- it is let out -/
theorem SR.out (s : SR g W H M) (e : Ext g.K W1 H1 W H) {p : Addr} {vs : List V} {ds : List D} (hp : W.pr p) (hl : H p = some (.lst vs)) (np : ¬ W1.pr p) (r : Reps g.K W H ds vs) {Wx : WX} {Q : VK} {m : Bool}
    (h : Res g Wx (RD g) W1 H1 σ Q (some (Mo.mk m ds M))) : Q (.ref p) H := by
  obtain ⟨_, nf, na⟩ := s.pa p hp
  have ne : ∀ (n : Nat) a, W.ad[n]? = some a → a ≠ p := fun n a h z => na (z ▸ List.mem_of_getElem? h)
  cases m with
  | false =>
    have e2 : Ext0 g.K W H { W with fz := fun a => W.fz a ∨ a = p, pr := fun a => W.pr a ∧ a ≠ p } H := ⟨fun _ _ h => h, fun _ h => .inl h, fun _ _ => rfl, fun _ _ h => h, fun _ _ _ h => h, fun _ _ h => h⟩
    refine h { W with fz := fun a => W.fz a ∨ a = p, pr := fun a => W.pr a ∧ a ≠ p } H (.ref p) ⟨e.toExt0.trans e2, fun a h => ⟨e.pr a h, fun z => np (z ▸ h)⟩, e.pl⟩ ⟨s.len, s.nd, fun n o a h1 h2 => (s.ob n o a h1 h2).mono e2 rfl, fun n o a h1 h2 h3 q => ?_, s.al, fun a h => ?_, fun a h => ?_⟩ ⟨p, vs, rfl, ⟨.inr rfl, hl⟩, r.up0 e2⟩
    · rcases q with q | q
      · exact s.nf n o a h1 h2 h3 q
      · exact ne n a h2 q
    · rcases h with h | h
      · exact s.fa a h
      · subst h; exact ⟨vs, hl⟩
    · obtain ⟨h1, h2, h3⟩ := s.pa a h.1
      exact ⟨h1, fun q => q.elim h2 h.2, h3⟩
  | true =>
    have e2 : Ext0 g.K W H { W with ad := W.ad ++ [p], pr := fun a => W.pr a ∧ a ≠ p } H := ⟨fun n a h => by
      show (W.ad ++ [p])[n]? = some a
      rw [List.getElem?_append_left (List.getElem?_eq_some_iff.mp h).1]; exact h, fun _ h => h, fun _ _ => rfl, fun _ _ h => h, fun _ _ _ h => h, fun _ _ h => h⟩
    have cases2 : ∀ (n : Nat) o' a, (M ++ [Ob.lst ds])[n]? = some o' → (W.ad ++ [p])[n]? = some a → (M[n]? = some o' ∧ W.ad[n]? = some a) ∨ (o' = .lst ds ∧ a = p) := fun n o' a h1 h2 => by
      by_cases hn : n < M.length
      · rw [List.getElem?_append_left hn] at h1
        rw [List.getElem?_append_left (by rw [s.len]; exact hn)] at h2
        exact .inl ⟨h1, h2⟩
      · rw [List.getElem?_append_right (by omega)] at h1
        rw [List.getElem?_append_right (by rw [s.len]; omega), s.len] at h2
        cases q : n - M.length with
        | zero => rw [q] at h1 h2; exact .inr ⟨(Option.some.inj h1).symm, (Option.some.inj h2).symm⟩
        | succ k => rw [q] at h1; simp at h1
    refine h { W with ad := W.ad ++ [p], pr := fun a => W.pr a ∧ a ≠ p } H (.ref p) ⟨e.toExt0.trans e2, fun a h => ⟨e.pr a h, fun z => np (z ▸ h)⟩, e.pl⟩ ⟨?_, ?_, fun n o a h1 h2 => ?_, fun n o a h1 h2 h3 => ?_, fun n a h => ?_, s.fa, fun a h => ?_⟩ ⟨p, rfl, ?_⟩
    · show (W.ad ++ [p]).length = (M ++ [_]).length
      rw [List.length_append, List.length_append, s.len]; rfl
    · show (W.ad ++ [p]).Nodup
      rw [List.nodup_append]
      exact ⟨s.nd, List.nodup_cons.mpr ⟨by simp, List.nodup_nil⟩, fun x hx y hy z => by rw [List.mem_singleton] at hy; subst hy; subst z; exact na hx⟩
    · rcases cases2 n o a h1 h2 with ⟨h1, h2⟩ | ⟨h1, h2⟩
      · exact (s.ob n o a h1 h2).mono e2 rfl
      · subst h1; subst h2; exact ⟨vs, hl, r.up0 e2⟩
    · rcases cases2 n o a h1 h2 with ⟨h1, h2⟩ | ⟨h1, h2⟩
      · exact s.nf n o a h1 h2 h3
      · subst h2; exact nf
    · have h' : (W.ad ++ [p])[n]? = some a := h
      by_cases hn : n < W.ad.length
      · rw [List.getElem?_append_left hn] at h'
        exact s.al n a h'
      · rw [List.getElem?_append_right (by omega)] at h'
        cases q : n - W.ad.length with
        | zero => rw [q] at h'; rw [← Option.some.inj h', hl]; simp
        | succ k => rw [q] at h'; simp at h'
    · obtain ⟨h1, h2, h3⟩ := s.pa a h.1
      refine ⟨h1, h2, fun q => ?_⟩
      rcases List.mem_append.mp (show a ∈ W.ad ++ [p] from q) with q | q
      · exact h3 q
      · exact h.2 (List.mem_singleton.mp q)
    · show (W.ad ++ [p])[M.length]? = some p
      rw [← s.len, List.getElem?_append_right (Nat.le_refl _)]
      simp
theorem kill_length (δ : Sl) : ∀ is : List Nat, (kill δ is).length = δ.length
  | [] => rfl
  | i :: is => by unfold kill; rw [List.length_set, kill_length δ is]
theorem kill_out {i : Nat} : ∀ {is : List Nat}, i ∉ is → (kill δ is)[i]? = δ[i]?
  | [], _ => rfl
  | j :: is, h => by
    simp only [List.mem_cons, not_or] at h
    unfold kill
    rw [List.getElem?_set_ne (fun z => h.1 z.symm)]
    exact kill_out h.2
theorem kill_some {i : Nat} {d : D} : ∀ {is : List Nat}, (kill δ is)[i]? = some (some d) → δ[i]? = some (some d) ∧ i ∉ is
  | [], h => ⟨h, by simp⟩
  | j :: is, h => by
    unfold kill at h
    by_cases hi : j = i
    · subst hi
      by_cases hv : j < (kill δ is).length
      · rw [List.getElem?_set_self hv] at h; cases h
      · rw [List.getElem?_eq_none (by simpa using hv)] at h; cases h
    · rw [List.getElem?_set_ne hi] at h
      obtain ⟨h1, h2⟩ := kill_some h
      exact ⟨h1, by simp only [List.mem_cons, not_or]; exact ⟨fun e => hi e.symm, h2⟩⟩
theorem wipe_out' {i : Nat} : ∀ {is : List Nat}, i ∉ is → (wipe σ is)[i]? = σ[i]?
  | [], _ => rfl
  | j :: is, h => by
    simp only [List.mem_cons, not_or] at h
    unfold wipe
    rw [List.getElem?_set_ne (fun z => h.1 z.symm)]
    exact wipe_out' h.2
theorem wipe_in' {i : Nat} : ∀ {is : List Nat}, i ∈ is → (wipe σ is)[i]? = if i < σ.length then some none else none
  | j :: is, h => by
    unfold wipe
    by_cases hj : j = i
    · subst hj
      by_cases hl : j < σ.length
      · rw [if_pos hl, List.getElem?_set_self (by rw [wipe_length]; exact hl)]
      · rw [if_neg hl, List.getElem?_eq_none (by rw [List.length_set, wipe_length]; omega)]
    · rw [List.getElem?_set_ne hj]
      exact wipe_in' ((List.mem_cons.mp h).resolve_left fun z => hj z.symm)
theorem wipe_eq {σ' : St} {is : List Nat} (hl : σ'.length = σ.length) (h : ∀ i, i ∉ is → σ'[i]? = σ[i]?) : wipe σ' is = wipe σ is := by
  refine List.ext_getElem? fun i => ?_
  by_cases hi : i ∈ is
  · rw [wipe_in' hi, wipe_in' hi, hl]
  · rw [wipe_out' hi, wipe_out' hi, h i hi]
theorem Pre.kill (p : Pre g cx W H δ σ M) (is : List Nat) : Pre g cx W H (kill δ is) (wipe σ is) M := by
  refine ⟨by rw [kill_length, wipe_length]; exact p.len, fun i d h hx => ?_, p.sr, fun x dd a i h => ⟨(p.cur x dd a i h).1, fun q => ?_⟩⟩
  · obtain ⟨h1, h2⟩ := kill_some h
    rw [wipe_out' h2]
    exact p.sl i d h1 hx
  · obtain ⟨h1, h2⟩ := kill_some q
    rw [wipe_out' h2]
    exact (p.cur x dd a i h).2 h1
/-- the slots may know more -/
theorem Pre.weak (p : Pre g cx W H δ σ M) (is : List Nat) : Pre g cx W H (Mo.kill δ is) σ M := by
  refine ⟨by rw [kill_length]; exact p.len, fun i d h hx => p.sl i d (kill_some h).1 hx, p.sr, fun x dd a i h => ⟨(p.cur x dd a i h).1, fun q => (p.cur x dd a i h).2 (kill_some q).1⟩⟩
end
theorem nox_some {α : Type} {r : Rs α} {o : Out α} (h : nox r = some o) : ∃ a M, r = some (.ok a M) ∧ o = .ok a M := by
  unfold nox at h
  split at h
  · cases h; exact ⟨_, _, rfl, rfl⟩
  · cases h
theorem nox_none {α : Type} {r : Rs α} (h : nox r = none) : ∀ a M, r ≠ some (.ok a M) := fun a M e => by rw [e] at h; cases h
theorem nox_rok {α β : Type} (r : Rs α) (k : α → β) : nox (bnd r fun a M => rok (k a) M) = bnd (nox r) fun a M => rok (k a) M := by
  cases r with
  | none => rfl
  | some o => cases o <;> rfl
/-- nothing is raised -/
abbrev WF : WX := fun _ _ _ _ => False
abbrev Cf.blk (c : Cf) : Cf := { c with Wx := WF }
theorem takes_wf {X : Cx} : Takes X WF := takes_none5
section
variable {X : Cx} {c : Cf} {tg iter elt tg2 iter2 : Expr} {ifs : List Expr} {S S2 : List Nat} {own : List (Str × Nat)} {scope : Scope} {fi fi2 : Sl → Store → Rs Items} {ft ft2 : D → Sl → Store → Rs Sl} {fb : Sl → Store → Rs Bool} {f : Sl → Store → Rs D} {m : Bool} {pos : Pos}
/-- what stands through a list's making -/
def CInv (g : Gd) (W1 : Wd) (H1 : Hp) (D₀ : Addr) (n : Nat) (P : List D → Store → Prop) (H : Hp) : Prop :=
  ∃ W' M' ds vs, Ext g.K W1 H1 W' H ∧ SR g W' H M' ∧ W'.pr D₀ ∧ H D₀ = some (.lst vs) ∧ Reps g.K W' H ds vs ∧ ds.length ≤ n ∧ P ds M'
theorem CInv.app {g : Gd} {W1 W' : Wd} {H1 H : Hp} {D₀ : Addr} {n n' : Nat} {P : List D → Store → Prop} {M' : Store} {ds : List D} {vs : List V} {d : D} {v : V} (np : ¬ W1.pr D₀) (e : Ext g.K W1 H1 W' H) (s : SR g W' H M') (hp : W'.pr D₀) (hl : H D₀ = some (.lst vs)) (r : Reps g.K W' H ds vs) (rd : Rep g.K W' H d v) (hn : ds.length ≤ n) (hn' : n < n')
    (h : P (ds ++ [d]) M') : CInv g W1 H1 D₀ n' P (upd H D₀ (.lst (vs ++ [v]))) := by
  obtain ⟨e2, s2⟩ := s.grow (ws := vs ++ [v]) hp hl
  exact ⟨W', M', ds ++ [d], vs ++ [v], e.grow s hp hl np, s2, hp, upd_same, (r.snoc rd).up0 e2, by rw [List.length_append]; show ds.length + 1 ≤ _; omega, h⟩
/-- a list comprehension's function -/
noncomputable def compF (m : Bool) (own : List (Str × Nat)) (fi : Sl → Store → Rs Items) (ft : D → Sl → Store → Rs Sl) (fb : Sl → Store → Rs Bool) (f : Sl → Store → Rs D) : Sl → Store → Rs D := fun δ M => bnd (fi δ M) fun it M1 => if it.xs.length ≤ line then
      bnd (compL it.gd (fun x M2 => nox (bnd (ft x (kill δ (own.map (·.2))) M2) fun δ' M3 => bnd (fb δ' M3) fun b M4 => if b = true then bnd (f δ' M4) fun d M5 => rok [d] M5 else rok [] M4)) it.xs M1) fun zs M2 => some (mk m zs M2)
    else none
noncomputable def comp2F (m : Bool) (own : List (Str × Nat)) (fi : Sl → Store → Rs Items) (ft : D → Sl → Store → Rs Sl) (fi2 : Sl → Store → Rs Items) (S2 : List Nat) (ft2 : D → Sl → Store → Rs Sl) (f : Sl → Store → Rs D) : Sl → Store → Rs D := fun δ M => bnd (fi δ M) fun it M1 => if it.xs.length ≤ 4096 then
      bnd (compL it.gd (fun x M2 => nox (bnd (ft x (kill δ (own.map (·.2))) M2) fun δ' M3 => bnd (fi2 δ' M3) fun it2 M4 => if it2.xs.length ≤ 4096 then
          compL it2.gd (fun y M5 => bnd (ft2 y (kill δ' S2) M5) fun δ'' M6 => bnd (f δ'' M6) fun d M7 => rok [d] M7) it2.xs M4 else none)) it.xs M1) fun zs M2 => some (mk m zs M2)
    else none
/-- a target's reading -/
abbrev tgG (c : Cf) (S : List Nat) (ft : D → Sl → Store → Rs Sl) : TG := fun v σ H Q => ∃ W δ M d, Pre c.g c.cx W H δ σ M ∧ Rep c.g.K W H d v ∧ ResG c.g c.cx S W H σ Q (ft d δ M)
theorem comp_t (hS : ∀ i ∈ S, i ∈ own.map (·.2)) : ∀ Wx' σ H Q, tG c.g c.cx Wx' (RD c.g) (compF m own fi ft fb f) σ H Q → tLc (tG c.g c.cx Wx' (ItOk c.g) fi) (tgG c S ft) (tG c.g c.cx WF RB fb) (tG c.g c.cx WF (RD c.g) f) (own.map (·.2)) σ H Q := by
  intro Wx' σ H Q ⟨W, δ, M, p, r⟩
  unfold compF at r
  refine (Res.step (R := ItOk c.g) (f := fi) p r).mono fun J H1 ⟨W1, it, M1, ex1, p1, hJ, r1⟩ => ?_
  split at r1
  case isFalse => exact r1.elim
  rename_i hline
  intro D₀ hD
  have np : ¬ W1.pr D₀ := p1.sr.freshP hD
  generalize hF : (fun x M2 => nox (bnd (ft x (kill δ (own.map (·.2))) M2) fun δ' M3 => bnd (fb δ' M3) fun b M4 => if b = true then bnd (f δ' M4) fun d M5 => rok [d] M5 else rok [] M4)) = F at r1
  refine ⟨fun i k H => k = it.xs.length - i ∧ i ≤ it.xs.length ∧ CInv c.g W1 H1 D₀ i (fun ds M' => Res c.g Wx' (RD c.g) W1 H1 σ Q (bnd (compL it.gd F (it.xs.drop i) M') fun zs M2 => some (mk m (ds ++ zs) M2))) H, ⟨_, rfl, Nat.zero_le _, ?_⟩, ?_⟩
  · obtain ⟨e2, s2⟩ := p1.sr.priv (vs := []) hD
    exact ⟨_, M1, [], [], e2, s2, .inr rfl, upd_same, .nil, Nat.zero_le _, r1⟩
  · rintro i k H2 ⟨rfl, hil, W', M', ds, vs, e2, s2, hp, hl, rs, hn, r2⟩
    by_cases hlt : i < it.xs.length
    · have hx : it.xs[i]? = some it.xs[i] := List.getElem?_eq_getElem hlt
      rw [List.drop_eq_getElem_cons hlt] at r2
      unfold compL at r2
      split at r2
      case isFalse => exact r2.elim
      rename_i hgd
      refine .inr ⟨hJ.go i W' H2 M' hlt e2.toExt0 s2 hgd, _, fun H' h => ⟨it.xs.length - (i + 1), by omega, rfl, hlt, h⟩, fun x H3 hy => ?_⟩
      obtain ⟨W3, e3, s3, r3⟩ := hJ.yld i _ W' H2 M' x H3 hx e2.toExt0 s2 hgd hy
      have p3 : Pre c.g c.cx W3 H3 (kill δ (own.map (·.2))) (wipe σ (own.map (·.2))) M' := (p1.up (e2.trans e3) s3).kill _
      refine ⟨W3, _, M', _, p3, r3, ?_⟩
      cases q0 : F it.xs[i] M' with
      | none => rw [q0] at r2; exact r2.elim
      | some z =>
        rw [q0] at r2
        have q0' := q0
        rw [← hF] at q0'
        obtain ⟨ys, M6, q1, rfl⟩ := nox_some q0'
        rw [bnd_ok, bnd_assoc] at r2
        cases q2 : ft it.xs[i] (kill δ (own.map (·.2))) M' with
        | none => rw [q2] at q1; cases q1
        | some z2 =>
          rw [q2] at q1
          cases z2 with
          | exc _ _ => cases q1
          | ok δ4 M4 =>
            rw [bnd_ok] at q1
            intro W4 H4 σ4 e4 p4 k4
            refine ⟨wipe_eq (k4.len.trans (wipe_length _ _)) fun j hj => (k4.at_ j fun z => hj (hS j z)).trans (wipe_out' hj), ?_⟩
            refine ⟨W4, δ4, M4, p4, ?_⟩
            cases q3 : fb δ4 M4 with
            | none => rw [q3] at q1; cases q1
            | some z3 =>
              rw [q3] at q1
              cases z3 with
              | exc _ _ => cases q1
              | ok b M5 =>
                rw [bnd_ok] at q1
                intro W5 H5 b' e5 s5 eb
                cases eb
                have e35 : Ext c.g.K W' H2 W5 H5 := (e3.trans e4).trans e5
                cases b with
                | false =>
                  rw [if_neg (by simp)] at q1 ⊢
                  cases q1
                  exact ⟨W5, _, ds, vs, e2.trans e35, s5, e35.pr _ hp, (e35.pl _ hp).trans hl, rs.up e35, by omega, by simpa using r2⟩
                | true =>
                  rw [if_pos rfl] at q1 ⊢
                  refine ⟨W5, δ4, M5, p4.up e5 s5, ?_⟩
                  cases q4 : f δ4 M5 with
                  | none => rw [q4] at q1; cases q1
                  | some z4 =>
                    rw [q4] at q1
                    cases z4 with
                    | exc _ _ => cases q1
                    | ok d M7 =>
                      cases q1
                      intro W6 H6 v e6 s6 rv
                      have e36 : Ext c.g.K W' H2 W6 H6 := e35.trans e6
                      have hl6 := (e36.pl _ hp).trans hl
                      refine ⟨vs, hl6, ?_, CInv.app np (e2.trans e36) s6 (e36.pr _ hp) hl6 (rs.up e36) rv hn (Nat.lt_succ_self i) ?_⟩
                      · rw [rs.length, sizeLine_line]; omega
                      · simpa [bnd_assoc] using r2
    · have e : i = it.xs.length := by omega
      subst e
      rw [List.drop_length] at r2
      unfold compL at r2
      split at r2
      case isFalse => exact r2.elim
      rename_i hgd
      refine .inl ⟨hJ.stop W' H2 M' e2.toExt0 s2 hgd, s2.out (Wx := Wx') (m := m) (σ := σ) e2 hp hl np rs ?_⟩
      simpa using r2
theorem compL_nil {g : Option (Nat × List D)} {F : D → Store → Rs (List D)} {M : Store} : compL g F [] M = if gdOk g M then rok [] M else none := rfl
theorem compL_cons {g : Option (Nat × List D)} {F : D → Store → Rs (List D)} {x : D} {xs : List D} {M : Store} : compL g F (x :: xs) M = if gdOk g M then bnd (F x M) fun ys M1 => bnd (compL g F xs M1) fun zs M2 => rok (ys ++ zs) M2 else none := rfl
theorem comp2_t (hS : ∀ i ∈ S, i ∈ own.map (·.2)) : ∀ Wx' σ H Q, tG c.g c.cx Wx' (RD c.g) (comp2F m own fi ft fi2 S2 ft2 f) σ H Q →
    tLc2 (tG c.g c.cx Wx' (ItOk c.g) fi) (tgG c S ft) tYes (tG c.g c.cx WF (ItOk c.g) fi2) (tgG c S2 ft2) tYes (tG c.g c.cx WF (RD c.g) f) (own.map (·.2)) S2 σ H Q := by
  intro Wx' σ H Q ⟨W, δ, M, p, r⟩
  unfold comp2F at r
  refine (Res.step (R := ItOk c.g) (f := fi) p r).mono fun J H1 ⟨W1, it, M1, ex1, p1, hJ, r1⟩ => ?_
  split at r1
  case isFalse => exact r1.elim
  rename_i hline
  intro D₀ hD
  have np : ¬ W1.pr D₀ := p1.sr.freshP hD
  generalize hF : (fun x M2 => nox (bnd (ft x (kill δ (own.map (·.2))) M2) fun δ' M3 => bnd (fi2 δ' M3) fun it2 M4 => if it2.xs.length ≤ 4096 then
          compL it2.gd (fun y M5 => bnd (ft2 y (kill δ' S2) M5) fun δ'' M6 => bnd (f δ'' M6) fun d M7 => rok [d] M7) it2.xs M4 else none)) = F at r1
  refine ⟨fun i k H => k = it.xs.length - i ∧ i ≤ it.xs.length ∧ CInv c.g W1 H1 D₀ (i * 4096) (fun ds M' => Res c.g Wx' (RD c.g) W1 H1 σ Q (bnd (compL it.gd F (it.xs.drop i) M') fun zs M2 => some (mk m (ds ++ zs) M2))) H, ⟨_, rfl, Nat.zero_le _, ?_⟩, ?_⟩
  · obtain ⟨e2, s2⟩ := p1.sr.priv (vs := []) hD
    exact ⟨_, M1, [], [], e2, s2, .inr rfl, upd_same, .nil, Nat.zero_le _, r1⟩
  · rintro i k H2 ⟨rfl, hil, W', M', ds, vs, e2, s2, hp, hl, rs, hn, r2⟩
    by_cases hlt : i < it.xs.length
    · have hx : it.xs[i]? = some it.xs[i] := List.getElem?_eq_getElem hlt
      rw [List.drop_eq_getElem_cons hlt, compL_cons] at r2
      split at r2
      case isFalse => exact r2.elim
      rename_i hgd
      refine .inr ⟨hJ.go i W' H2 M' hlt e2.toExt0 s2 hgd, _, fun H' h => ⟨it.xs.length - (i + 1), by omega, rfl, hlt, h⟩, fun x H3 hy => ?_⟩
      obtain ⟨W3, e3, s3, r3⟩ := hJ.yld i _ W' H2 M' x H3 hx e2.toExt0 s2 hgd hy
      have p3 : Pre c.g c.cx W3 H3 (kill δ (own.map (·.2))) (wipe σ (own.map (·.2))) M' := (p1.up (e2.trans e3) s3).kill _
      refine ⟨W3, _, M', _, p3, r3, ?_⟩
      rw [bnd_assoc] at r2
      have hFx : F it.xs[i] M' = nox (bnd (ft it.xs[i] (kill δ (own.map (·.2))) M') fun δ' M3 => bnd (fi2 δ' M3) fun it2 M4 => if it2.xs.length ≤ 4096 then
          compL it2.gd (fun y M5 => bnd (ft2 y (kill δ' S2) M5) fun δ'' M6 => bnd (f δ'' M6) fun d M7 => rok [d] M7) it2.xs M4 else none) := by rw [← hF]
      rw [hFx] at r2
      cases q2 : ft it.xs[i] (kill δ (own.map (·.2))) M' with
      | none => rw [q2] at r2; exact r2.elim
      | some z2 =>
        rw [q2] at r2
        cases z2 with
        | exc _ _ => exact r2.elim
        | ok δ4 M4 =>
          rw [bnd_ok] at r2
          intro W4 H4 σ4 e4 p4 k4
          refine ⟨wipe_eq (k4.len.trans (wipe_length _ _)) fun j hj => (k4.at_ j fun z => hj (hS j z)).trans (wipe_out' hj), ?_⟩
          simp only [tYes, ↓reduceIte]
          refine ⟨W4, δ4, M4, p4, ?_⟩
          cases q3 : fi2 δ4 M4 with
          | none => rw [q3] at r2; exact r2.elim
          | some z3 =>
            rw [q3] at r2
            cases z3 with
            | exc _ _ => exact r2.elim
            | ok it2 M5 =>
              rw [bnd_ok] at r2
              intro W5 H5 J2 e5 s5 hJ2
              split at r2
              case isFalse => exact r2.elim
              rename_i hline2
              generalize hF2 : (fun y M5 => bnd (ft2 y (kill δ4 S2) M5) fun δ'' M6 => bnd (f δ'' M6) fun d M7 => rok [d] M7) = F2 at r2
              have e25 : Ext c.g.K W' H2 W5 H5 := (e3.trans e4).trans e5
              have e15 : Ext c.g.K W1 H1 W5 H5 := e2.trans e25
              have p5 := p4.up e5 s5
              -- the inner loop
              refine ⟨fun j k H => k = it2.xs.length - j ∧ j ≤ it2.xs.length ∧ ∃ W6 M6 ds6 vs6, Ext c.g.K W1 H1 W6 H ∧ Ext0 c.g.K W5 H5 W6 H ∧ SR c.g W6 H M6 ∧ W6.pr D₀ ∧ H D₀ = some (.lst vs6) ∧ Reps c.g.K W6 H ds6 vs6 ∧ ds6.length ≤ i * 4096 + j ∧
                Res c.g Wx' (RD c.g) W1 H1 σ Q (bnd (nox (compL it2.gd F2 (it2.xs.drop j) M6)) fun ys M2 => bnd (bnd (compL it.gd F (it.xs.drop (i + 1)) M2) fun zs M3 => rok (ys ++ zs) M3) fun zs M3 => some (mk m (ds6 ++ zs) M3)), ⟨_, rfl, Nat.zero_le _, W5, M5, ds, vs, e15, .refl, s5, e25.pr _ hp, (e25.pl _ hp).trans hl, rs.up e25, by omega, r2⟩, ?_⟩
              rintro j k H6 ⟨rfl, hjl, W6, M6, ds6, vs6, e6, x6, s6, hp6, hl6, rs6, hn6, r6⟩
              by_cases hlt2 : j < it2.xs.length
              · have hx2 : it2.xs[j]? = some it2.xs[j] := List.getElem?_eq_getElem hlt2
                rw [List.drop_eq_getElem_cons hlt2, compL_cons] at r6
                split at r6
                case isFalse => exact r6.elim
                rename_i hgd2
                refine .inr ⟨hJ2.go j W6 H6 M6 hlt2 x6 s6 hgd2, _, fun H' h => ⟨it2.xs.length - (j + 1), by omega, rfl, hlt2, h⟩, fun y H7 hy2 => ?_⟩
                obtain ⟨W7, e7, s7, r7⟩ := hJ2.yld j _ W6 H6 M6 y H7 hx2 x6 s6 hgd2 hy2
                refine ⟨W7, _, M6, _, (p5.up0 (x6.trans e7.toExt0) s7).kill S2, r7, ?_⟩
                rw [← hF2] at r6
                dsimp only at r6
                cases q5 : ft2 it2.xs[j] (kill δ4 S2) M6 with
                | none => rw [q5] at r6; exact r6.elim
                | some z5 =>
                  rw [q5] at r6
                  cases z5 with
                  | exc _ _ => exact r6.elim
                  | ok δ8 M8 =>
                    rw [bnd_ok] at r6
                    intro W8 H8 σ8 e8 p8 k8
                    refine ⟨wipe_eq (k8.len.trans (wipe_length _ _)) fun j hj => (k8.at_ j hj).trans (wipe_out' hj), ?_⟩
                    refine ⟨W8, δ8, M8, p8, ?_⟩
                    cases q6 : f δ8 M8 with
                    | none => rw [q6] at r6; exact r6.elim
                    | some z6 =>
                      rw [q6] at r6
                      cases z6 with
                      | exc _ _ => exact r6.elim
                      | ok d M9 =>
                        simp only [bnd_ok, nox_rok] at r6
                        intro W9 H9 v e9 s9 rv
                        have e69 : Ext c.g.K W6 H6 W9 H9 := (e7.trans e8).trans e9
                        have hp9 := e69.pr _ hp6
                        have hl9 := (e69.pl _ hp6).trans hl6
                        refine ⟨vs6, hl9, ?_, W9, M9, ds6 ++ [d], vs6 ++ [v], (e6.trans e69).grow s9 hp9 hl9 np, (x6.trans e69.toExt0).trans (s9.grow hp9 hl9).1, (s9.grow hp9 hl9).2, hp9, upd_same, ((rs6.up e69).snoc rv).up0 (s9.grow (ws := vs6 ++ [v]) hp9 hl9).1, ?_, ?_⟩
                        · rw [rs6.length, sizeLine_line]; show ds6.length < 16777216; omega
                        · rw [List.length_append]; show ds6.length + 1 ≤ _; omega
                        · rw [← hF2]
                          simpa [bnd_assoc] using r6
              · have e : j = it2.xs.length := by omega
                subst e
                rw [List.drop_length, compL_nil] at r6
                split at r6
                case isFalse => exact r6.elim
                rename_i hgd2
                refine .inl ⟨hJ2.stop W6 H6 M6 x6 s6 hgd2, W6, M6, ds6, vs6, e6, s6, hp6, hl6, rs6, by omega, ?_⟩
                simpa [bnd_assoc] using r6
    · have e : i = it.xs.length := by omega
      subst e
      rw [List.drop_length, compL_nil] at r2
      split at r2
      case isFalse => exact r2.elim
      rename_i hgd
      refine .inl ⟨hJ.stop W' H2 M' e2.toExt0 s2 hgd, s2.out (Wx := Wx') (m := m) (σ := σ) e2 hp hl np rs ?_⟩
      simpa using r2
/-- a dict comprehension's function -/
noncomputable def dcompF (own : List (Str × Nat)) (fi : Sl → Store → Rs Items) (ft : D → Sl → Store → Rs Sl) (fb : Sl → Store → Rs Bool) (fk f : Sl → Store → Rs D) : Sl → Store → Rs D := fun δ M => bnd (fi δ M) fun it M1 => if it.xs.length ≤ line then
      bnd (compL it.gd (fun x M2 => nox (bnd (ft x (kill δ (own.map (·.2))) M2) fun δ' M3 => bnd (fb δ' M3) fun b M4 => if b = true then bnd (fk δ' M4) fun kd M5 => bnd (f δ' M5) fun d M6 => putR M1.length kd d M6 else rok [] M4)) it.xs (M1 ++ [.dk []])) fun _ M2 => rok (.oid M1.length) M2
    else none
theorem setK_ok {g : Gd} {W : Wd} {H : Hp} {M M' : Store} (s : SR g W H M) {n : Nat} {a : Addr} {k z : D} {y v : V} (ha : W.ad[n]? = some a) (r2 : Rep g.K W H k y) (r3 : Rep g.K W H z v) (h : setK M n k z = some M') :
    ∃ ks key, y = kV key ∧ H a = some (.dK ks) ∧ ks.length < sizeLine ∧ Ext g.K W H W (upd H a (.dK (putK ks key v))) ∧ SR g W (upd H a (.dK (putK ks key v))) M' := by
  unfold setK at h
  split at h
  · rename_i kvs hk
    unfold setD at h
    rw [hk] at h
    dsimp only at h
    obtain ⟨b, eb, ea, ks, hv, t⟩ := ob_of (x := .ref a) s ⟨a, rfl, ha⟩ hk
    cases eb
    split at h
    · rename_i key e
      split at h
      · rename_i hl
        cases h
        obtain ⟨ex, s'⟩ := s.write (b := .dk (storeK kvs key z)) (h := .dK (putK ks key v)) hk ea (by intro z; cases z) fun ex => ⟨_, upd_same, (t.mono ex.toExt0).put (r3.up ex)⟩
        exact ⟨ks, key, key_rep r2 e, hv, by rw [t.length, sizeLine_line]; exact hl, ex, s'⟩
      · cases h
    · cases h
  · cases h
theorem dcomp_t {fk : Sl → Store → Rs D} (hS : ∀ i ∈ S, i ∈ own.map (·.2)) : ∀ Wx' σ H Q, tG c.g c.cx Wx' (RD c.g) (dcompF own fi ft fb fk f) σ H Q → tDc (tG c.g c.cx Wx' (ItOk c.g) fi) (tgG c S ft) (tG c.g c.cx WF RB fb) (tG c.g c.cx WF (RD c.g) fk) (tG c.g c.cx WF (RD c.g) f) (own.map (·.2)) σ H Q := by
  intro Wx' σ H Q ⟨W, δ, M, p, r⟩
  unfold dcompF at r
  refine (Res.step (R := ItOk c.g) (f := fi) p r).mono fun J H1 ⟨W1, it, M1, ex1, p1, hJ, r1⟩ => ?_
  split at r1
  case isFalse => exact r1.elim
  rename_i hline
  intro D₀ hD
  generalize hF : (fun x M2 => nox (bnd (ft x (kill δ (own.map (·.2))) M2) fun δ' M3 => bnd (fb δ' M3) fun b M4 => if b = true then bnd (fk δ' M4) fun kd M5 => bnd (f δ' M5) fun d M6 => putR M1.length kd d M6 else rok [] M4)) = F at r1
  refine ⟨fun i k H => k = it.xs.length - i ∧ i ≤ it.xs.length ∧ ∃ W' M', Ext c.g.K W1 H1 W' H ∧ SR c.g W' H M' ∧ W'.ad[M1.length]? = some D₀ ∧ Res c.g Wx' (RD c.g) W1 H1 σ Q (bnd (compL it.gd F (it.xs.drop i) M') fun _ M2 => rok (.oid M1.length) M2), ⟨_, rfl, Nat.zero_le _, ?_⟩, ?_⟩
  · obtain ⟨W2, eW, e2, s2⟩ := p1.sr.push (o := .dK []) (b := .dk []) hD fun W2 e2 => ⟨[], upd_same, rfl⟩
    refine ⟨W2, _, e2, s2, ?_, r1⟩
    rw [eW]
    show (W1.ad ++ [D₀])[M1.length]? = some D₀
    rw [← p1.sr.len, List.getElem?_append_right (Nat.le_refl _)]
    simp
  · rintro i k H2 ⟨rfl, hil, W', M', e2, s2, hp, r2⟩
    by_cases hlt : i < it.xs.length
    · have hx : it.xs[i]? = some it.xs[i] := List.getElem?_eq_getElem hlt
      rw [List.drop_eq_getElem_cons hlt] at r2
      unfold compL at r2
      split at r2
      case isFalse => exact r2.elim
      rename_i hgd
      refine .inr ⟨hJ.go i W' H2 M' hlt e2.toExt0 s2 hgd, _, fun H' h => ⟨it.xs.length - (i + 1), by omega, rfl, hlt, h⟩, fun x H3 hy => ?_⟩
      obtain ⟨W3, e3, s3, r3⟩ := hJ.yld i _ W' H2 M' x H3 hx e2.toExt0 s2 hgd hy
      have p3 : Pre c.g c.cx W3 H3 (kill δ (own.map (·.2))) (wipe σ (own.map (·.2))) M' := (p1.up (e2.trans e3) s3).kill _
      refine ⟨W3, _, M', _, p3, r3, ?_⟩
      cases q0 : F it.xs[i] M' with
      | none => rw [q0] at r2; exact r2.elim
      | some z =>
        rw [q0] at r2
        have q0' := q0
        rw [← hF] at q0'
        obtain ⟨ys, M6, q1, rfl⟩ := nox_some q0'
        rw [bnd_ok, bnd_assoc] at r2
        cases q2 : ft it.xs[i] (kill δ (own.map (·.2))) M' with
        | none => rw [q2] at q1; cases q1
        | some z2 =>
          rw [q2] at q1
          cases z2 with
          | exc _ _ => cases q1
          | ok δ4 M4 =>
            rw [bnd_ok] at q1
            intro W4 H4 σ4 e4 p4 k4
            refine ⟨wipe_eq (k4.len.trans (wipe_length _ _)) fun j hj => (k4.at_ j fun z => hj (hS j z)).trans (wipe_out' hj), ?_⟩
            refine ⟨W4, δ4, M4, p4, ?_⟩
            cases q3 : fb δ4 M4 with
            | none => rw [q3] at q1; cases q1
            | some z3 =>
              rw [q3] at q1
              cases z3 with
              | exc _ _ => cases q1
              | ok b M5 =>
                rw [bnd_ok] at q1
                intro W5 H5 b' e5 s5 eb
                cases eb
                have e35 : Ext c.g.K W' H2 W5 H5 := (e3.trans e4).trans e5
                cases b with
                | false =>
                  rw [if_neg (by simp)] at q1 ⊢
                  cases q1
                  exact ⟨W5, _, e2.trans e35, s5, e35.ad _ _ hp, by simpa using r2⟩
                | true =>
                  rw [if_pos rfl] at q1 ⊢
                  refine ⟨W5, δ4, M5, p4.up e5 s5, ?_⟩
                  cases q4 : fk δ4 M5 with
                  | none => rw [q4] at q1; cases q1
                  | some z4 =>
                    rw [q4] at q1
                    cases z4 with
                    | exc _ _ => cases q1
                    | ok kd M7 =>
                      rw [bnd_ok] at q1
                      intro W6 H6 yk e6 s6 rk
                      refine ⟨W6, δ4, M7, (p4.up e5 s5).up e6 s6, ?_⟩
                      cases q5 : f δ4 M7 with
                      | none => rw [q5] at q1; cases q1
                      | some z5 =>
                        rw [q5] at q1
                        cases z5 with
                        | exc _ _ => cases q1
                        | ok d M8 =>
                          rw [bnd_ok] at q1
                          intro W7 H7 v e7 s7 rv
                          have e37 : Ext c.g.K W' H2 W7 H7 := (e35.trans e6).trans e7
                          unfold putR at q1
                          split at q1
                          · rename_i M9 hM9
                            cases q1
                            obtain ⟨ks, key, ey, hk, hl, ex, s8⟩ := setK_ok s7 (e37.ad _ _ hp) (rk.up e7) rv hM9
                            exact ⟨ks, key, ey, hk, hl, W7, _, (e2.trans e37).trans ex, s8, e37.ad _ _ hp, by simpa using r2⟩
                          · cases q1
    · have e : i = it.xs.length := by omega
      subst e
      rw [List.drop_length] at r2
      unfold compL at r2
      split at r2
      case isFalse => exact r2.elim
      rename_i hgd
      exact .inl ⟨hJ.stop W' H2 M' e2.toExt0 s2 hgd, r2 W' H2 (.ref D₀) e2 s2 ⟨D₀, rfl, hp⟩⟩
end
end Mo
/-! Mo8: statements. -/
namespace Mo
open PySem PySem.Spec L2
open PyProof.Rows hiding St

def ResS (g : Gd) (cx : Cur) (Wx : WX) (W : Wd) (H : Hp) (D : Ends) : Option SO → Prop
  | some (.nx δ M) => ∀ W' H' σ', Ext g.K W H W' H' → Pre g cx W' H' δ σ' M → D.nx σ' H'
  | some (.bk δ M) => ∀ W' H' σ', Ext g.K W H W' H' → Pre g cx W' H' δ σ' M → D.bk σ' H'
  | some (.ct δ M) => ∀ W' H' σ', Ext g.K W H W' H' → Pre g cx W' H' δ σ' M → D.ct σ' H'
  | some (.rt d M) => ∀ W' H' v, Ext g.K W H W' H' → SR g W' H' M → Rep g.K W' H' d v → D.rt v H'
  | some (.exc x δ M) => ∀ W' H' σ' c dd, Ext g.K W H W' H' → Pre g cx W' H' δ σ' M → RepX g W' H' x c dd → Wx c dd σ' H'
  | none => False
abbrev tS (c : Cf) (f : Sl → Store → Option SO) : TS := fun D σ H => ∃ W δ M, Pre c.g c.cx W H δ σ M ∧ ResS c.g c.cx c.Wx W H D (f δ M)
abbrev JS (X : Cx) (c : Cf) (st : Stmt) (f : Sl → Store → Option SO) : Prop := PS X st (tS c f)
abbrev JSs (X : Cx) (c : Cf) (st : List Stmt) (f : Sl → Store → Option SO) : Prop := PSs X st (tS c f)
section
variable {α β : Type} {g : Gd} {cx : Cur} {Wx : WX} {R : Wd → Hp → α → β → Prop} {W W' : Wd} {H H' : Hp} {σ : St} {D D' : Ends} {δ : Sl} {M M' : Store} {r : Option SO}
theorem ResS.up (h : ResS g cx Wx W H D r) (e : Ext g.K W H W' H') : ResS g cx Wx W' H' D r := by
  cases r with
  | none => exact h
  | some o =>
    cases o with
    | nx δ M => exact fun W2 H2 σ2 e2 p => h W2 H2 σ2 (e.trans e2) p
    | bk δ M => exact fun W2 H2 σ2 e2 p => h W2 H2 σ2 (e.trans e2) p
    | ct δ M => exact fun W2 H2 σ2 e2 p => h W2 H2 σ2 (e.trans e2) p
    | rt d M => exact fun W2 H2 v e2 s q => h W2 H2 v (e.trans e2) s q
    | exc x δ M => exact fun W2 H2 σ2 c dd e2 p q => h W2 H2 σ2 c dd (e.trans e2) p q
theorem ResS.step {f : Sl → Store → Rs α} {k : α → Store → Option SO} (p : Pre g cx W H δ σ M) (h : ResS g cx Wx W H D (bndS δ (f δ M) k)) :
    tG g cx Wx R f σ H fun b H1 => ∃ W1 a M1, Ext g.K W H W1 H1 ∧ Pre g cx W1 H1 δ σ M1 ∧ R W1 H1 a b ∧ ResS g cx Wx W1 H1 D (k a M1) := by
  refine ⟨W, δ, M, p, ?_⟩
  cases e : f δ M with
  | none => rw [e] at h; exact h
  | some o =>
    rw [e] at h
    cases o with
    | ok a M1 =>
      have h' : ResS g cx Wx W H D (k a M1) := h
      exact fun W1 H1 b e1 s1 r1 => ⟨W1, a, M1, e1, p.up e1 s1, r1, h'.up e1⟩
    | exc x M1 => exact fun W1 H1 c dd e1 s1 rx => h W1 H1 σ c dd e1 (p.up e1 s1) rx
/-- a target's step -/
theorem ResS.stepG {S : List Nat} {d : Mo.D} {v : V} {ft : Mo.D → Sl → Store → Rs Sl} {k : Sl → Store → Option SO} (p : Pre g cx W H δ σ M) (rd : Rep g.K W H d v) (h : ResS g cx Wx W H D' (bndS δ (nox (ft d δ M)) k)) :
    ∃ W δ M d, Pre g cx W H δ σ M ∧ Rep g.K W H d v ∧ ResG g cx S W H σ (fun σ2 H2 => ∃ W2 δ2 M2, Pre g cx W2 H2 δ2 σ2 M2 ∧ ResS g cx Wx W2 H2 D' (k δ2 M2)) (ft d δ M) := by
  refine ⟨W, δ, M, d, p, rd, ?_⟩
  cases e : ft d δ M with
  | none => rw [e] at h; exact h
  | some o =>
    rw [e] at h
    cases o with
    | exc x M1 => exact h
    | ok δ1 M1 =>
      have h' : ResS g cx Wx W H D' (k δ1 M1) := h
      exact fun W1 H1 σ1 e1 p1 k1 => ⟨W1, δ1, M1, p1, h'.up e1⟩
theorem ResS.nx_ (p : Pre g cx W H δ σ M) (h : ResS g cx Wx W H D (some (.nx δ M))) : D.nx σ H := h W H σ .refl p
end
theorem PS.imp {X : Cx} {e : Stmt} {t t' : TS} (h : PS X e t) (hi : ∀ D σ H, t' D σ H → t D σ H) : PS X e t' := ⟨fun pins s σ H D I q => h.run pins s σ H D I (hi D σ H q)⟩
theorem PSs.imp {X : Cx} {e : List Stmt} {t t' : TS} (h : PSs X e t) (hi : ∀ D σ H, t' D σ H → t D σ H) : PSs X e t' := ⟨fun pins s σ H D I q => h.run pins s σ H D I (hi D σ H q)⟩
section
variable {X : Cx} {c : Cf} {e tg iter : Expr} {st : Stmt} {a b : List Stmt} {f f1 f2 : Sl → Store → Rs D} {fi : Sl → Store → Rs Items} {ft : D → Sl → Store → Rs Sl} {fa fb fs fr : Sl → Store → Option SO} {S : List Nat} {pos : Pos}
theorem js_imp {t : TS} (h : PS X st t) (hi : ∀ W δ M σ H D, Pre c.g c.cx W H δ σ M → ResS c.g c.cx c.Wx W H D (fs δ M) → t D σ H) : JS X c st fs :=
  PS.imp h fun D σ H ⟨W, δ, M, p, r⟩ => hi W δ M σ H D p r
theorem jss_nil : JSs X c [] (fun δ M => some (.nx δ M)) := PSs.imp pss_nil fun D σ H ⟨W, δ, M, p, r⟩ => r.nx_ p
theorem jss_cons (h1 : JS X c st fs) (h2 : JSs X c b fr) : JSs X c (st :: b) (fun δ M => match fs δ M with
    | some (.nx δ' M') => fr δ' M'
    | o => o) := PSs.imp (pss_cons h1 h2) fun D σ H ⟨W, δ, M, p, r⟩ => by
  refine ⟨W, δ, M, p, ?_⟩
  dsimp only at r
  cases q : fs δ M with
  | none => rw [q] at r; exact r
  | some o =>
    rw [q] at r
    cases o with
    | nx δ' M' => exact fun W' H' σ' e' p' => ⟨W', δ', M', p', ResS.up (show ResS c.g c.cx c.Wx W H D (fr δ' M') from r) e'⟩
    | _ => exact r
theorem js_exp (he : JE X c e f) (hs : swapsWith e none pos.line X.env = pure false) : JS X c (.Expr e pos) (fun δ M => bndS δ (f δ M) fun _ M1 => some (.nx δ M1)) := js_imp (ps_expr he hs) fun W δ M σ H D p r =>
  (ResS.step (R := RD c.g) (f := f) p r).mono fun x H1 ⟨W1, d, M1, e1, p1, rd, r1⟩ => r1.nx_ p1
theorem js_asg (he : JE X c e f) (hg : JG X c tg S ft) (hs : swapsWithSole [tg] e pos.line X.env = pure false) (hw : swappedStores [tg] e X.env = pure none)
    (h1 : (assignEach [tg] X.env).map (·.2) = [assign tg X.env]) : JS X c (.Assign [tg] e pos) (fun δ M => bndS δ (f δ M) fun d M1 => bndS δ (nox (ft d δ M1)) fun δ' M2 => some (.nx δ' M2)) := js_imp (ps_asg he hg hs hw h1) fun W δ M σ H D p r =>
  (ResS.step (R := RD c.g) (f := f) p r).mono fun x H1 ⟨W1, d, M1, e1, p1, rd, r1⟩ => by
    obtain ⟨W2, δ2, M2, d2, p2, r2, h2⟩ := ResS.stepG (S := S) p1 rd r1
    refine ⟨W2, δ2, M2, d2, p2, r2, ?_⟩
    cases q : ft d2 δ2 M2 with
    | none => rw [q] at h2; exact h2
    | some o =>
      rw [q] at h2
      cases o with
      | exc x M => exact h2
      | ok δ3 M3 => exact fun W3 H3 σ3 e3 p3 k3 => let ⟨W4, δ4, M4, p4, h4⟩ := h2 W3 H3 σ3 e3 p3 k3; h4.nx_ p4
/-- name = value, where the machine's store is another -/
theorem js_setU {i : Nat} {t : TE} (h : PS X st (tAsg t (gName i))) (hi : ∀ σ H Q, tG c.g c.cx c.Wx (RD c.g) f σ H Q → t σ H Q) : JS X c st (fun δ M => bndS δ (f δ M) fun d M1 => bndS δ (nox (rok (δ.set i (some d)) M1)) fun δ' M2 => some (.nx δ' M2)) := js_imp h fun W δ M σ H D p r =>
  hi σ H _ ((ResS.step (R := RD c.g) (f := f) p r).mono fun x H1 ⟨W1, d, M1, e1, p1, rd, r1⟩ => ResS.nx_ (p1.set rd) r1)
theorem js_par {i j : Nat} {x y : Str} {e1 e2 : Expr} {px py pt : Pos} {kt k2 : Nat} {pt2 : Pos} (hc : X.calm = true) (hN : X.N.Nodup) (hi : X.N[i]? = some x) (hj : X.N[j]? = some y) (hij : i ≠ j)
    (hx : X.env.scope.names.lookup x = some .local) (hy : X.env.scope.names.lookup y = some .local) (h1 : JE X c e1 f1) (h2 : JE X c e2 f2)
    (hw : swappedStores [.Tuple [.Name x px, .Name y py] kt pt] (.Tuple [e1, e2] k2 pt2) X.env = pure (some [x, y]))
    (hs : swapsWithSole [.Tuple [.Name x px, .Name y py] kt pt] (.Tuple [e1, e2] k2 pt2) pos.line X.env = pure false) (hs1 : starEach [e1, e2] X.env = (false, eval e1 X.env) :: starEach [e2] X.env) (hs2 : starEach [e2] X.env = (false, eval e2 X.env) :: starEach [] X.env) :
    JS X c (.Assign [.Tuple [.Name x px, .Name y py] kt pt] (.Tuple [e1, e2] k2 pt2) pos) (fun δ M => bndS δ (f1 δ M) fun d M1 => bndS δ (f2 δ M1) fun d2 M2 => some (.nx ((δ.set i (some d)).set j (some d2)) M2)) :=
  js_imp (ps_par hc hN hi hj hij hx hy (pa_cons h1 (pa_cons h2 pa_nil hs2) hs1) hw hs) fun W δ M σ H D p r =>
  (ResS.step (R := RD c.g) (f := f1) p r).mono fun v H1 ⟨W1, d, M1, e1, p1, rd, r1⟩ => (ResS.step (R := RD c.g) (f := f2) p1 r1).mono fun w H2 ⟨W2, d2, M2, e2, p2, rd2, r2⟩ =>
    ⟨v, w, rfl, ResS.nx_ ((p2.set (rd.up e2)).set rd2) r2⟩
theorem js_ret (he : JE X c e f) : JS X c (.Return (some e) pos) (fun δ M => bndS δ (f δ M) fun d M1 => some (.rt d M1)) := js_imp (ps_ret he) fun W δ M σ H D p r =>
  (ResS.step (R := RD c.g) (f := f) p r).mono fun x H1 ⟨W1, d, M1, e1, p1, rd, r1⟩ => r1 W1 H1 x .refl p1.sr rd
theorem js_retN : JS X c (.Return none pos) (fun _ M => some (.rt .non M)) := js_imp ps_retN fun W δ M σ H D p r => r W H .non .refl p.sr rfl
theorem js_pass : JS X c (.Pass pos) (fun δ M => some (.nx δ M)) := js_imp ps_pass fun W δ M σ H D p r => r.nx_ p
theorem js_doc {x : Str} {j : Nat} {p2 : Pos} : JS X c (.Expr (.Constant (.str x) j p2) pos) (fun δ M => some (.nx δ M)) := js_imp ps_doc fun W δ M σ H D p r => r.nx_ p
theorem js_brk : JS X c (.Break pos) (fun δ M => some (.bk δ M)) := js_imp ps_break fun W δ M σ H D p r => r W H σ .refl p
theorem js_cont : JS X c (.Continue pos) (fun δ M => some (.ct δ M)) := js_imp ps_continue fun W δ M σ H D p r => r W H σ .refl p
/-- a statement that is not walked: nothing is said of it -/
theorem js_hole {a : Stmt} : JS X c a (fun _ _ => none) := ⟨fun _ _ _ _ _ _ ⟨_, _, _, _, r⟩ => r.elim⟩
theorem js_if (he : JT X c e (tst f)) (ha : JSs X c a fa) (hb : JSs X c b fb) : JS X c (.If e a b pos) (fun δ M => bndS δ (tst f δ M) fun t M1 => if t = true then fa δ M1 else fb δ M1) := js_imp (ps_if he ha hb) fun W δ M σ H D p r =>
  (ResS.step (R := RB) (f := tst f) p r).mono fun t H1 ⟨W1, d, M1, e1, p1, rd, r1⟩ => by
    cases rd
    cases t with
    | true => exact iteT ⟨W1, δ, M1, p1, by simpa using r1⟩
    | false => exact iteF ⟨W1, δ, M1, p1, by simpa using r1⟩
theorem js_kil {is : List Nat} (h : JS X c st fs) : JS X c st (fun δ M => match fs δ M with
    | some (.nx δ' M') => some (.nx (kill δ' is) M')
    | r => r) := js_imp h fun W δ M σ H D p r => by
  refine ⟨W, δ, M, p, ?_⟩
  cases q : fs δ M with
  | none => rw [q] at r; exact r
  | some o =>
    rw [q] at r
    cases o with
    | nx δ' M' => exact fun W' H' σ' e' p' => r W' H' σ' e' (p'.weak is)
    | _ => exact r
theorem forL_nil {g : Option (Nat × List D)} {kl : List Nat} {F : D → Sl → Store → Option SO} {δ : Sl} {M : Store} : forL g kl F [] δ M = if gdOk g M then some (.nx (kill δ kl) M) else none := rfl
theorem forL_cons {g : Option (Nat × List D)} {kl : List Nat} {F : D → Sl → Store → Option SO} {x : D} {xs : List D} {δ : Sl} {M : Store} : forL g kl F (x :: xs) δ M = if gdOk g M then match F x δ M with
      | some (.nx δ' M') => forL g kl F xs (kill δ' kl) M'
      | some (.ct δ' M') => forL g kl F xs (kill δ' kl) M'
      | some (.bk δ' M') => some (.nx (kill δ' kl) M')
      | r => r
    else none := rfl
theorem js_for {kl : List Nat} (hp : PassesOwn (model X.prog X.w) X.A X.env X.xe) (hc : X.calm = true) (hi : JI X c tg iter fi) (hg : JG X c tg S ft) (hb : JSs X c b fb) (hs : ∀ x, foldedSetIterable iter X.env x = pure x) :
    JS X c (.For tg iter b [] pos) (fun δ M => bndS δ (fi δ M) fun it M1 => forL it.gd kl (fun x δ' M2 => bndS δ' (nox (ft x δ' M2)) fun δ'' M3 => fb δ'' M3) it.xs δ M1) := by
  refine js_imp (ps_for hp hc hi hg hb hs) fun W δ M σ H D p r => (ResS.step (R := ItOk c.g) (f := fi) p r).mono fun J H1 ⟨W1, it, M1, ex1, p1, hJ, r1⟩ => ?_
  generalize hF : (fun x δ' M2 => bndS δ' (nox (ft x δ' M2)) fun δ'' M3 => fb δ'' M3) = F at r1
  refine ⟨fun i k σ H => k = it.xs.length - i ∧ i ≤ it.xs.length ∧ ∃ W' δ' M', Ext c.g.K W1 H1 W' H ∧ Pre c.g c.cx W' H δ' σ M' ∧ ResS c.g c.cx c.Wx W1 H1 D (forL it.gd kl F (it.xs.drop i) δ' M'), ⟨_, rfl, Nat.zero_le _, W1, δ, M1, .refl, p1, r1⟩, ?_⟩
  rintro i k σ2 H2 ⟨rfl, hil, W', δ', M', e2, p2, r2⟩
  by_cases hlt : i < it.xs.length
  · have hx : it.xs[i]? = some it.xs[i] := List.getElem?_eq_getElem hlt
    rw [List.drop_eq_getElem_cons hlt, forL_cons] at r2
    split at r2
    case isFalse => exact r2.elim
    rename_i hgd
    refine .inr ⟨hJ.go i W' H2 M' hlt e2.toExt0 p2.sr hgd, _, fun σ' H' h => ⟨it.xs.length - (i + 1), by omega, rfl, hlt, h⟩, fun x H3 hy => ?_⟩
    obtain ⟨W3, e3, s3, r3⟩ := hJ.yld i _ W' H2 M' x H3 hx e2.toExt0 p2.sr hgd hy
    refine ⟨W3, δ', M', _, p2.up e3 s3, r3, ?_⟩
    rw [← hF] at r2
    dsimp only at r2
    cases q : ft it.xs[i] δ' M' with
    | none => rw [q] at r2; exact r2.elim
    | some o =>
      rw [q] at r2
      cases o with
      | exc _ _ => exact r2.elim
      | ok δ4 M4 =>
        rw [nox_ok, bndS_ok] at r2
        intro W4 H4 σ4 e4 p4 k4
        refine ⟨W4, δ4, M4, p4, ?_⟩
        have e24 := e2.trans (e3.trans e4)
        cases q2 : fb δ4 M4 with
        | none => rw [q2] at r2; exact r2
        | some o2 =>
          rw [q2] at r2
          cases o2 with
          | nx δ5 M5 => exact fun W5 H5 σ5 e5 p5 => ⟨W5, kill δ5 kl, M5, e24.trans e5, p5.weak kl, by rw [← hF]; exact r2⟩
          | ct δ5 M5 => exact fun W5 H5 σ5 e5 p5 => ⟨W5, kill δ5 kl, M5, e24.trans e5, p5.weak kl, by rw [← hF]; exact r2⟩
          | bk δ5 M5 => exact fun W5 H5 σ5 e5 p5 => r2 W5 H5 σ5 (e24.trans e5) (p5.weak kl)
          | rt d M5 => exact fun W5 H5 v e5 s5 r5 => r2 W5 H5 v (e24.trans e5) s5 r5
          | exc x δ5 M5 => exact fun W5 H5 σ5 c' dd e5 p5 r5 => r2 W5 H5 σ5 c' dd (e24.trans e5) p5 r5
  · have e : i = it.xs.length := by omega
    subst e
    rw [List.drop_length, forL_nil] at r2
    split at r2
    case isFalse => exact r2.elim
    rename_i hgd
    exact .inl ⟨hJ.stop W' H2 M' e2.toExt0 p2.sr hgd, r2 W' H2 σ2 e2 (p2.weak kl)⟩
theorem js_while {kl : List Nat} {n : Nat} (hp : PassesOwn (model X.prog X.w) X.A X.env X.xe) (he : JT X c e (tst f)) (hb : JSs X c b fb) : JS X c (.While e b [] pos) (fun δ M => whileL kl (tst f) fb n δ M) := by
  refine js_imp (ps_while hp he hb) fun W δ M σ H D p r => ?_
  refine ⟨fun m σ H' => ∃ W' δ' M', Pre c.g c.cx W' H' δ' σ M' ∧ ResS c.g c.cx c.Wx W' H' D (whileL kl (tst f) fb m δ' M'), ⟨n, W, δ, M, p, r⟩, ?_⟩
  rintro m σ2 H2 ⟨W', δ', M', p2, r2⟩
  cases m with
  | zero => exact r2.elim
  | succ m =>
    unfold whileL at r2
    refine (ResS.step (R := RB) (f := tst f) p2 r2).mono fun t H3 ⟨W3, d, M3, e3, p3, rd, r3⟩ => ?_
    cases rd
    cases t with
    | false =>
      rw [if_neg (by simp)] at r3 ⊢
      exact r3 W3 H3 σ2 .refl (p3.weak kl)
    | true =>
      rw [if_pos rfl] at r3 ⊢
      refine ⟨_, fun σ' H' h => ⟨m, Nat.lt_succ_self m, h⟩, W3, δ', M3, p3, ?_⟩
      cases q2 : fb δ' M3 with
      | none => rw [q2] at r3; exact r3
      | some o2 =>
        rw [q2] at r3
        cases o2 with
        | nx δ5 M5 => exact fun W5 H5 σ5 e5 p5 => ⟨W5, kill δ5 kl, M5, p5.weak kl, ResS.up (show ResS c.g c.cx c.Wx W3 H3 D (whileL kl (tst f) fb m (kill δ5 kl) M5) from r3) e5⟩
        | ct δ5 M5 => exact fun W5 H5 σ5 e5 p5 => ⟨W5, kill δ5 kl, M5, p5.weak kl, ResS.up (show ResS c.g c.cx c.Wx W3 H3 D (whileL kl (tst f) fb m (kill δ5 kl) M5) from r3) e5⟩
        | bk δ5 M5 => exact fun W5 H5 σ5 e5 p5 => r3 W5 H5 σ5 e5 (p5.weak kl)
        | rt d M5 => exact fun W5 H5 v e5 s5 r5 => r3 W5 H5 v e5 s5 r5
        | exc x δ5 M5 => exact fun W5 H5 σ5 c' dd e5 p5 r5 => r3 W5 H5 σ5 c' dd e5 p5 r5
end
end Mo
/-! Mo9: raise and try. -/
namespace Mo
open PySem PySem.Spec L2
open PyProof.Rows hiding St

/-! ### try -/
def wGen (K : PySem.W.Frag) (Wout : WX) (D : Ends) : List (Value × Option Nat × (Addr → Value → Option Addr → TS)) → WX
  | [] => Wout
  | (c, i, ts) :: r => fun cls d σ H => ∃ b, PySem.W.exmOne K cls c = some b ∧ (b = true → ∀ a, H a = none → match i with
      | none => ts a cls d D σ H
      | some i => ts a cls d { nx := fun σ' H' => D.nx (σ'.set i none) H', rt := D.rt, bk := fun σ' H' => D.bk (σ'.set i none) H', ct := fun σ' H' => D.ct (σ'.set i none) H' } (σ.set i (some (.ref a))) H) ∧ (b = false → wGen K Wout D r cls d σ H)
inductive HdsG (X : Cx) : List ExceptHandler → List (Value × Option Nat × (Addr → Value → Option Addr → TS)) → Prop
  | nil : HdsG X [] []
  | only {x : PySem.Str} {c : Value} {ts : Addr → Value → Option Addr → TS} {b₀ : Stmt} {suite : List Stmt} {np pos' : Pos} {hds : List ExceptHandler} {l : List (Value × Option Nat × (Addr → Value → Option Addr → TS))} (hc : Names X x c)
      (hsu : ∀ (a : Addr) (oe : Obj) (cls : Value) (d : Option Addr) (pn : List (Addr × Obj)), Zc cls d oe → (∃ vs, oe.data = .fields vs) → PSs (X.suite a ((a, oe) :: pn)) (b₀ :: suite) (ts a cls d)) (r : HdsG X hds l) :
      HdsG X (.ExceptHandler (some (.Name x np)) none (b₀ :: suite) pos' :: hds) ((c, none, ts) :: l)
  | as_ {x n : PySem.Str} {i : Nat} {c : Value} {ts : Addr → Value → Option Addr → TS} {b₀ : Stmt} {suite : List Stmt} {np pos' : Pos} {hds : List ExceptHandler} {l : List (Value × Option Nat × (Addr → Value → Option Addr → TS))}
      (hN : X.N.Nodup) (hi : X.N[i]? = some n) (hln : X.env.kindOf n = some .local) (hc : Names X x c)
      (hsu : ∀ (a : Addr) (oe : Obj) (cls : Value) (d : Option Addr) (pn : List (Addr × Obj)), Zc cls d oe → (∃ vs, oe.data = .fields vs) → PSs (X.suite a ((a, oe) :: pn)) (b₀ :: suite) (ts a cls d)) (r : HdsG X hds l) :
      HdsG X (.ExceptHandler (some (.Name x np)) (some n) (b₀ :: suite) pos' :: hds) ((c, some i, ts) :: l)
section
variable {X : Cx} {body : List Stmt} {h₀ : ExceptHandler} {hds : List ExceptHandler} {l : List (Value × Option Nat × (Addr → Value → Option Addr → TS))} {pos : Pos} {tb : WX → TS} {Wout : WX}
theorem ps_try_gen (hs : X.stack = X.env :: X.outer) (hf : X.env.frame = some X.env.locals) (tk : Takes X Wout)
    (hb : ∀ (W : WX) (pn : List (Addr × Obj)) (xe : Value → Shared → Prop), Takes (X.tr pn xe) W → PassesOwn (model X.prog X.w) X.A X.env xe → PSs (X.tr pn xe) body (tb W))
    (hh : HdsG X (h₀ :: hds) l) : PS X (.Try body (h₀ :: hds) [] [] pos) (fun D σ H => tb (wGen X.K Wout D l) D σ H) := by
  refine ⟨fun pins s σ H D I h => ?_⟩
  have ok := I.ok
  have hfr : X.A.frames = some (X.env :: X.outer) := by rw [ok.frames, hs]
  refine wpAny_Try_except ?_
  refine wpAny_mono ((hb (wGen X.K Wout D l) (X.pn ++ pins) (fun e s₁ => wpAny (model X.prog X.w) X.A (noteFrame e X.env) (fun _ s₂ => wpAny (model X.prog X.w) X.A (setFlight e none) (fun _ s₃ =>
    wpAny (model X.prog X.w) X.A (handleBy e X.env (h₀ :: hds)) (SP X pins D) X.xe s₃) X.xe s₂) X.xe s₁) (fun u s' xx => ?_) PassesOwn.looking).run [] s σ H D (I.toTry _) h) (fun f s1 hsp => ?_) (fun e s1 he => he)
  · -- the catch
    obtain ⟨a, B, sI, pins', σ', H', cls, d, rfl, J', nb, up, sky, na, os, ag, w⟩ := xx
    have J : Inv X pins σ' H' sI := J'.ofTry ok
    have sky' : Sky B (X.env :: X.outer) a (Zc cls d) X.env.locals s'.heap := by rw [← hs]; exact sky
    show wpAny (model X.prog X.w) X.A (noteFrame (.ref a) X.env) _ _ _
    refine Sky.land Zc.steady hfr hf sky' fun h3 fl3 up3 => ?_
    have J3 : Inv X pins σ' H' { s' with heap := h3 } := J.landed nb fl3.1 (up.trans up3) os ag
    obtain ⟨oe3, vs3, he3, hz3, hd3⟩ := fl3.there
    have notFr : ∀ {h : Heap} {o : Obj} {vs : Array Value}, h.FunFrames B (X.env :: X.outer) → h.get? a = some o → o.data = .fields vs → a ∉ frs (X.env :: X.outer) := fun {h o vs} ff e dd hm => by
      obtain ⟨_, o', e', hnf⟩ := ff.mem hm
      rw [e] at e'; cases e'
      exact hnf _ dd
    have nfr := notFr fl3.2.2.1 he3 hd3
    have nL : a ≠ X.env.locals := fun z => nfr (List.mem_filterMap.mpr ⟨X.env, List.mem_cons_self, by rw [hf, z]⟩)
    have nF : a ∉ X.fs := fun hm => by
      obtain ⟨e, he, q⟩ := List.mem_filterMap.mp hm
      exact nfr (List.mem_filterMap.mpr ⟨e, List.mem_cons_of_mem _ he, q⟩)
    have S3 := J3.suite he3 hd3 na nL nF
    have go : ∀ {hds' : List ExceptHandler} {l' : List (Value × Option Nat × (Addr → Value → Option Addr → TS))}, HdsG X hds' l' → wGen X.K Wout D l' cls d σ' H' →
        wpAny (model X.prog X.w) X.A (handleBy (.ref a) X.env hds') (SP X pins D) X.xe { s' with heap := h3 } := by
      intro hds' l' hk
      induction hk with
      | nil =>
        intro w
        refine wpAny_handleBy_nil ?_
        obtain ⟨k1, k2, k3, oe, vs, T, oT, ts', he, hz, hd, h1, hr⟩ := id fl3
        unfold PySem.passOn
        refine wpAny_bind (wpAny_field he hd h1 ?_)
        rw [if_neg (show ¬ ((Value.ref T == Value.none) = true) from by simp)]
        have fin : wpAny (model X.prog X.w) X.A (setFlight (.ref a) X.env.frame) (fun _ s4 => wpAny (model X.prog X.w) X.A (throw (.ref a) : Sem Flow) (SP X pins D) X.xe s4) X.xe { s' with heap := h3 } := by
          rw [hf]
          refine HandSPX.setFlight_upZ fl3 fun h4 hh4 up4 => wpAny_throw (tk _ _ ?_)
          exact ⟨a, B, sI, pins, σ', H', cls, d, rfl, J, nb, (up.trans up3).trans up4, .inr (.inr (by rw [hs]; exact hh4)), na, os, ag, w⟩
        first
          | exact wpAny_bind (wpAny_pure (wpAny_bind fin))
          | exact wpAny_bind fin
      | @only x c ts b₀ suite np pos' hds2 l2 hc hsu r ih =>
        intro w
        obtain ⟨b, hb1, hyes, hno⟩ := w
        refine wpAny_handleBy_cons (codeAny_handlers_test ?_) (by intro q; cases q)
        have LT : PySem.W.Looks (model X.prog X.w) h3 (typeOf (.ref a)) cls := fun A Q E s k q => wpAny_typeOf_ref (k _ _ he3) (by rw [hz3.1]; exact q)
        have LM := PySem.W.exm_one (M := model X.prog X.w) (J3.kIn) LT hb1
        have test : ∀ {Q : Value → Shared → Prop} {E : Value → Shared → Prop}, Q c { s' with heap := h3 } → wpAny (model X.prog X.w) (X.A.mark (some (.ref a))) (eval (.Name x np) X.env) Q E { s' with heap := h3 } := fun {Q E} q => by
          obtain ⟨hg, hdbg, hm | ⟨hm, hv, hnn⟩⟩ := hc
          · exact ld_glob (X := X.suite a ((a, oe3) :: (X.pn ++ pins))) S3 hg hm q hdbg
          · exact ld_blt (X := X.suite a ((a, oe3) :: (X.pn ++ pins))) S3 hg hm hv q hnn hdbg
        refine test (LM.here ?_)
        cases b with
        | true =>
          refine codeAny_handlers_suite ?_
          refine HandSPX.lands_againZ fl3 fun h4 fl4 up4 => ?_
          have J4 : Inv X pins σ' H' { s' with heap := h4 } := J.landed nb fl4.1 ((up.trans up3).trans up4) os ag
          obtain ⟨oe4, vs4, he4, hz4, hd4⟩ := fl4.there
          have S4 := J4.suite he4 hd4 na nL nF
          refine wpAny_mono ((hsu a oe4 cls d (X.pn ++ pins) hz4 ⟨_, hd4⟩).run [] _ _ H' _ S4 (hyes rfl a na)) (fun f s6 hsp => ?_) (fun _ _ z => False.elim z)
          cases f with
          | next =>
            obtain ⟨σ6, H6, S6, q6⟩ := hsp
            exact ⟨_, _, S6.unsuite ok, q6⟩
          | brk =>
            obtain ⟨σ6, H6, S6, q6⟩ := hsp
            exact ⟨_, _, S6.unsuite ok, q6⟩
          | cont =>
            obtain ⟨σ6, H6, S6, q6⟩ := hsp
            exact ⟨_, _, S6.unsuite ok, q6⟩
          | ret u =>
            obtain ⟨v6, σ6, H6, S6, r6, q6⟩ := hsp
            exact ⟨_, _, _, S6.unsuite ok, r6, q6⟩
        | false =>
          show wpAny _ X.A (handleBy (.ref a) X.env hds2) _ _ _
          exact ih (hno rfl)
      | @as_ x n i c ts b₀ suite np pos' hds2 l2 hN hi hln hc hsu r ih =>
        intro w
        obtain ⟨b, hb1, hyes, hno⟩ := w
        refine wpAny_handleBy_cons (codeAny_handlers_test ?_) (by intro q; cases q)
        have LT : PySem.W.Looks (model X.prog X.w) h3 (typeOf (.ref a)) cls := fun A Q E s k q => wpAny_typeOf_ref (k _ _ he3) (by rw [hz3.1]; exact q)
        have LM := PySem.W.exm_one (M := model X.prog X.w) (J3.kIn) LT hb1
        have test : ∀ {Q : Value → Shared → Prop} {E : Value → Shared → Prop}, Q c { s' with heap := h3 } → wpAny (model X.prog X.w) (X.A.mark (some (.ref a))) (eval (.Name x np) X.env) Q E { s' with heap := h3 } := fun {Q E} q => by
          obtain ⟨hg, hdbg, hm | ⟨hm, hv, hnn⟩⟩ := hc
          · exact ld_glob (X := X.suite a ((a, oe3) :: (X.pn ++ pins))) S3 hg hm q hdbg
          · exact ld_blt (X := X.suite a ((a, oe3) :: (X.pn ++ pins))) S3 hg hm hv q hnn hdbg
        refine test (LM.here ?_)
        cases b with
        | true =>
          refine codeAny_handlers_suite_as ?_
          refine HandSPX.lands_againZ fl3 fun h4 fl4 up4 => ?_
          have J4 : Inv X pins σ' H' { s' with heap := h4 } := J.landed nb fl4.1 ((up.trans up3).trans up4) os ag
          obtain ⟨oe4, vs4, he4, hz4, hd4⟩ := fl4.there
          have S4 := J4.suite he4 hd4 na nL nF
          refine store_ok (X := X.suite a ((a, oe4) :: (X.pn ++ pins))) (v := .ref a) S4 hN hi (.inl hln) rfl (fun s5 S5 => ?_) (.inr hln)
          refine wpAny_mono ((hsu a oe4 cls d (X.pn ++ pins) hz4 ⟨_, hd4⟩).run [] s5 _ H' _ S5 (hyes rfl a na)) (fun f s6 hsp => ?_) (fun _ _ z => False.elim z)
          have end_ : ∀ {σ6 : St} {H6 : Hp} {Q : Shared → Prop}, Inv (X.suite a ((a, oe4) :: (X.pn ++ pins))) [] σ6 H6 s6 → (∀ s7, Inv X pins (σ6.set i none) H6 s7 → Q s7) →
              wpAny (model X.prog X.w) X.A (do bindName X.env n .none; unbindBehindTheSuite X.env n pos') (fun _ s7 => Q s7) X.xe s6 := fun {σ6 H6 Q} S6 hq => gone_ok (S6.unsuite ok) hN hi hln hq
          cases f with
          | next =>
            obtain ⟨σ6, H6, S6, q6⟩ := hsp
            exact end_ S6 fun s7 J7 => ⟨_, _, J7, q6⟩
          | brk =>
            obtain ⟨σ6, H6, S6, q6⟩ := hsp
            exact end_ S6 fun s7 J7 => ⟨_, _, J7, q6⟩
          | cont =>
            obtain ⟨σ6, H6, S6, q6⟩ := hsp
            exact end_ S6 fun s7 J7 => ⟨_, _, J7, q6⟩
          | ret u =>
            obtain ⟨v6, σ6, H6, S6, r6, q6⟩ := hsp
            exact end_ S6 fun s7 J7 => ⟨_, _, _, J7, r6, q6⟩
        | false =>
          show wpAny _ X.A (handleBy (.ref a) X.env hds2) _ _ _
          exact ih (hno rfl)
    exact go hh w
  · cases f with
    | next =>
      obtain ⟨σ', H', J', q⟩ := hsp
      exact wpAny_execs_nil ⟨σ', H', J'.ofTry ok, q⟩
    | brk =>
      obtain ⟨σ', H', J', q⟩ := hsp
      exact ⟨σ', H', J'.ofTry ok, q⟩
    | cont =>
      obtain ⟨σ', H', J', q⟩ := hsp
      exact ⟨σ', H', J'.ofTry ok, q⟩
    | ret u =>
      obtain ⟨v, σ', H', J', r, q⟩ := hsp
      exact ⟨v, σ', H', J'.ofTry ok, r, q⟩
end

/-- the clauses, evaluated -/
def hdsF : List (Nat × Option Nat × (Exn → Sl → Store → Option SO)) → Exn → Sl → Store → Option SO
  | [], x, δ, M => some (.exc x δ M)
  | (h, i, fh) :: r, x, δ, M => if catches h x.cls = true then (match i with
      | none => noxS (fh x δ M)
      | some i => asS i (noxS (fh x (δ.set i (some .exr)) M)))
    else hdsF r x δ M
/-- which exceptions are caught by which clause -/
def ExTab (K : PySem.W.Frag) (g : Gd) (exN : Nat) : Prop := ∀ i h, i < exN → h < exN → PySem.W.exmOne K (.ref (g.ca i)) (.ref (g.ca h)) = some (catches h i)
def curOf (x : Exn) (dd : Option Addr) (a : Addr) : Option Nat → Cur
  | none => none
  | some i => some (x, dd, a, i)
inductive HdsJ (X : Cx) (c : Cf) (exN : Nat) : List ExceptHandler → List (Nat × Option Nat × (Exn → Sl → Store → Option SO)) → Prop
  | nil : HdsJ X c exN [] []
  | cons {x : PySem.Str} {no : Option PySem.Str} {i : Option Nat} {h : Nat} {fh : Exn → Sl → Store → Option SO} {b₀ : Stmt} {suite : List Stmt} {np pos' : Pos} {hds : List ExceptHandler} {l : List (Nat × Option Nat × (Exn → Sl → Store → Option SO))}
      (hn : match no, i with
        | none, none => True
        | some n, some i => X.N[i]? = some n ∧ X.env.kindOf n = some .local
        | _, _ => False)
      (hh : h < exN) (hc : Names X x (.ref (c.g.ca h)))
      (hsu : ∀ (a : Addr) (oe : Obj) (cls : Value) (d : Option Addr) (pn : List (Addr × Obj)) (x : Exn), Zc cls d oe → (∃ vs, oe.data = .fields vs) → cls = .ref (c.g.ca x.cls) → x.cls < exN → JSs (X.suite a ((a, oe) :: pn)) { c with cx := curOf x d a i, Wx := WF } (b₀ :: suite) (fh x)) (r : HdsJ X c exN hds l) :
      HdsJ X c exN (.ExceptHandler (some (.Name x np)) no (b₀ :: suite) pos' :: hds) ((h, i, fh) :: l)
theorem Pre.cx0 {g : Gd} {cx : Cur} {W : Wd} {H : Hp} {δ : Sl} {σ : St} {M : Store} (p : Pre g cx W H δ σ M) : Pre g none W H δ σ M := ⟨p.len, p.sl, p.sr, fun _ _ _ _ h => nomatch h⟩
theorem Pre.free {g : Gd} {cx : Cur} {W : Wd} {H : Hp} {δ : Sl} {σ : St} {M : Store} (p : Pre g cx W H δ σ M) {j : Nat} : Pre g cx W H (δ.set j none) (σ.set j none) M := by
  refine ⟨by rw [List.length_set, List.length_set]; exact p.len, fun i d h hx => ?_, p.sr, fun x dd a i h => ⟨(p.cur x dd a i h).1, fun q => ?_⟩⟩
  · by_cases hij : j = i
    · subst hij
      by_cases hl : j < δ.length
      · rw [List.getElem?_set_self hl] at h; cases h
      · rw [List.getElem?_eq_none (by simpa using hl)] at h; cases h
    · rw [List.getElem?_set_ne hij] at h ⊢
      exact p.sl i d h hx
  · by_cases hij : j = i
    · subst hij
      by_cases hl : j < δ.length
      · rw [List.getElem?_set_self hl] at q; cases q
      · rw [List.getElem?_eq_none (by simpa using hl)] at q; cases q
    · rw [List.getElem?_set_ne hij] at q ⊢
      exact (p.cur x dd a i h).2 q
theorem Pre.exr {g : Gd} {cx : Cur} {W : Wd} {H : Hp} {δ : Sl} {σ : St} {M : Store} {x : Exn} {dd : Option Addr} {a : Addr} (p : Pre g cx W H δ σ M) (r : XdR g W H x.fs dd) (j : Nat) : Pre g (some (x, dd, a, j)) W H (δ.set j (some .exr)) (σ.set j (some (.ref a))) M := by
  refine ⟨by rw [List.length_set, List.length_set]; exact p.len, fun i d h hx => ?_, p.sr, fun x' dd' a' i h => ?_⟩
  · by_cases hij : j = i
    · subst hij
      by_cases hl : j < δ.length
      · rw [List.getElem?_set_self hl] at h; cases h; cases hx
      · rw [List.getElem?_eq_none (by simpa using hl)] at h; cases h
    · rw [List.getElem?_set_ne hij] at h ⊢
      exact p.sl i d h hx
  · cases h
    refine ⟨r, fun q => List.getElem?_set_self ?_⟩
    have := (List.getElem?_eq_some_iff.mp q).1
    rw [List.length_set] at this
    exact p.len ▸ this
section
variable {X : Cx} {c : Cf} {body : List Stmt} {hds : List ExceptHandler} {l : List (Nat × Option Nat × (Exn → Sl → Store → Option SO))} {fb : Sl → Store → Option SO} {pos : Pos}
/-- no name of a caught exception is in force -/
theorem js_try {exN : Nat} {h₀ : ExceptHandler} (hcx : c.cx = none) (hK : c.g.K = X.K) (ht : ExTab X.K c.g exN) (hN : X.N.Nodup) (hs : X.stack = X.env :: X.outer) (hf : X.env.frame = some X.env.locals) (tk : Takes X c.Wx)
    (hb : ∀ (W : WX) (pn : List (Addr × Obj)) (xe : Value → Shared → Prop), Takes (X.tr pn xe) W → PassesOwn (model X.prog X.w) X.A X.env xe → JSs (X.tr pn xe) { c with Wx := W } body fb)
    (hh : HdsJ X c exN (h₀ :: hds) l) : JS X c (.Try body (h₀ :: hds) [] [] pos) (fun δ M => match fb δ M with
      | some (.exc x δ' M') => if x.cls < exN then hdsF l x δ' M' else none
      | r => r) := by
  have mkL : ∀ {hds : List ExceptHandler} {l : List (Nat × Option Nat × (Exn → Sl → Store → Option SO))}, HdsJ X c exN hds l → ∃ l', HdsG X hds l' ∧ ∀ (Wout : WX) (D : Ends) (x : Exn) (W : Wd) (H : Hp) (δ : Sl) (M : Store), x.cls < exN → ResS c.g c.cx Wout W H D (hdsF l x δ M) →
      ∀ W' H' σ' cls dd, Ext c.g.K W H W' H' → Pre c.g c.cx W' H' δ σ' M → RepX c.g W' H' x cls dd → wGen X.K Wout D l' cls dd σ' H' := by
    intro hds l hj
    induction hj with
    | nil => exact ⟨[], .nil, fun Wout D x W H δ M hx h W' H' σ' cls dd e p r => h W' H' σ' cls dd e p r⟩
    | @cons nm' no i h fh b₀ suite np pos' hds l hn hh hc hsu r ih =>
      obtain ⟨l', g1, g2⟩ := ih
      refine ⟨(.ref (c.g.ca h), i, fun a cls d => fun D σ H => ∃ x : Exn, (cls = .ref (c.g.ca x.cls) ∧ x.cls < exN) ∧ tS { c with cx := curOf x d a i, Wx := WF } (fh x) D σ H) :: l', ?_, ?_⟩
      · have su : ∀ (a : Addr) (oe : Obj) (cls : Value) (d : Option Addr) (pn : List (Addr × Obj)), Zc cls d oe → (∃ vs, oe.data = .fields vs) → PSs (X.suite a ((a, oe) :: pn)) (b₀ :: suite) (fun D σ H => ∃ x : Exn, (cls = .ref (c.g.ca x.cls) ∧ x.cls < exN) ∧ tS { c with cx := curOf x d a i, Wx := WF } (fh x) D σ H) := fun a oe cls d pn hz hd =>
          ⟨fun pins s σ H D I ⟨x, hx, q⟩ => (hsu a oe cls d pn x hz hd hx.1 hx.2).run pins s σ H D I q⟩
        cases no with
        | none =>
          cases i with
          | none => exact .only hc su g1
          | some i => exact hn.elim
        | some n =>
          cases i with
          | none => exact hn.elim
          | some i => exact .as_ hN hn.1 hn.2 hc su g1
      · intro Wout D x W H δ M hx hr W' H' σ' cls dd e p rx
        refine ⟨catches h x.cls, by rw [rx.1]; exact ht _ _ hx hh, fun hy a ha => ?_, fun hno => ?_⟩
        · unfold hdsF at hr
          rw [if_pos hy] at hr
          cases i with
          | none =>
            refine ⟨x, ⟨rx.1, hx⟩, W', δ, M, p.cx0, ?_⟩
            have hr := ResS.up hr e
            dsimp only at hr ⊢
            rw [hcx] at hr
            cases q : fh x δ M with
            | none => rw [q] at hr; exact hr.elim
            | some o =>
              rw [q] at hr
              cases o with
              | exc _ _ _ => exact hr.elim
              | _ => exact hr
          | some i =>
            refine ⟨x, ⟨rx.1, hx⟩, W', δ.set i (some .exr), M, p.exr rx.2 i, ?_⟩
            have hr := ResS.up hr e
            dsimp only at hr ⊢
            rw [hcx] at hr
            cases q : fh x (δ.set i (some .exr)) M with
            | none => rw [q] at hr; exact hr.elim
            | some o =>
              rw [q] at hr
              cases o with
              | exc _ _ _ => exact hr.elim
              | nx δ5 M5 => exact fun W5 H5 σ5 e5 p5 => hr W5 H5 _ e5 p5.cx0.free
              | bk δ5 M5 => exact fun W5 H5 σ5 e5 p5 => hr W5 H5 _ e5 p5.cx0.free
              | ct δ5 M5 => exact fun W5 H5 σ5 e5 p5 => hr W5 H5 _ e5 p5.cx0.free
              | rt d5 M5 => exact hr
        · unfold hdsF at hr
          rw [if_neg (by rw [hno]; simp)] at hr
          exact g2 Wout D x W H δ M hx hr W' H' σ' cls dd e p rx
  obtain ⟨l', g1, g2⟩ := mkL hh
  refine js_imp (ps_try_gen (tb := fun W => tS { c with Wx := W } fb) hs hf tk hb g1) fun W δ M σ H D p r => ⟨W, δ, M, p, ?_⟩
  dsimp only at r ⊢
  cases q : fb δ M with
  | none => rw [q] at r; exact r
  | some o =>
    rw [q] at r
    cases o with
    | exc x δ' M' =>
      dsimp only at r
      split at r
      · rename_i hx
        exact fun W' H' σ' cls dd e p' rx => g2 c.Wx D x W H δ' M' hx r W' H' σ' cls dd e p' rx
      · exact r.elim
    | _ => exact r
end

/-! ### raise -/
/-- an own class without own __init__ -/
structure ExKn (K : PySem.W.Frag) (mg : PySem.Str → Option Value) (g : Gd) (x : PySem.Str) (c : Nat) : Prop where
  gC : mg x = some (.ref (g.ca c))
  kC : PySem.W.keepIn K (.ref (g.ca c)) = true
  exc : ∃ (B newId initId : String) (bmB : List Value), ExcBaseFacts B newId initId bmB ∧ PySem.W.excIn K (g.ca c) bmB newId = true
  exC : PySem.W.subIn K (.ref (g.ca c)) (.type "BaseException") = some true
  tyC : PySem.W.typeIn K (.ref (g.ca c)) = some (.type "type")
/-- what an own __init__ of one or two fields does -/
def spI (K : PySem.W.Frag) (C : Addr) : List Nat → Sp
  | [f] => fun vs H Q _ => ∃ a y, vs = [.ref a, y] ∧ H a = some (exo a C none) ∧ ∀ dx, H dx = none → dx ≠ a → Q .non (upd (upd H dx (exd dx [(nm f, y)])) a (exo a C (some dx)))
  | [f, f2] => fun vs H Q _ => ∃ a y z, vs = [.ref a, y, z] ∧ H a = some (exo a C none) ∧ ∀ dx, H dx = none → dx ≠ a → Q .non (upd (upd (upd H dx (exd dx [(nm f, y)])) a (exo a C (some dx))) dx (exd dx [(nm f2, z), (nm f, y)]))
  | _ => fun _ _ _ _ => False
structure ExIn (P : Program) (w : World) (K : PySem.W.Frag) (mg : PySem.Str → Option Value) (base : Heap) (g : Gd) (x : PySem.Str) (c : Nat) (ks : List Nat) (k : Nat) : Prop where
  gC : mg x = some (.ref (g.ca c))
  T : OexC K (g.ca c)
  nd : ks.Nodup
  le : ks.length = 1 ∨ ks.length = 2
  ex : ∃ (fI : Addr) (fd : FuncData) (ps : List PySem.Str), PySem.W.findIn K (.ref (g.ca c)) "__init__" = some (some (.ref fI)) ∧ PySem.W.typeIn K (.ref fI) = some (.type "function") ∧ Binds K fd ps [] ∧ FnOk P w K mg base (L2.CX P w) k fI fd ps (spI K (g.ca c) ks)
section
variable {X : Cx} {c : Cf} {x : PySem.Str} {cl : Nat} {e : Expr} {es : List Expr} {fs : Sl → Store → Rs (List Mo.D)} {p pos pos2 : Pos}
theorem pmk_own0 {C : Addr} {bmB : List Value} {B newId initId : String} (F : ExcBaseFacts B newId initId bmB) (q : PySem.W.excIn X.K C bmB newId = true) (gC : X.mg x = some (.ref C))
    (kC : PySem.W.keepIn X.K (.ref C) = true) (r : Raises X (.ref C)) (hg : Gl X x) (hdb : (x == ("__debug__" : PySem.Str)) = false) :
    PMk X (.Call (.Name x p) [] [] pos) (fun σ H Q => Q (.ref C) none H) := by
  intro pins s σ H Q I h
  refine wpAny_Call_Name_kw (ld_glob I hg gC ?_ hdb)
  refine PySem.W.callWith_K0 I.kIn kC ?_
  show wpAny _ _ (call (.ref C) []) _ _ _
  obtain ⟨bm, N, nm, qn, bs, hdct, sn, sub, ab, col, dd, k0, k1, k2, k3, k5, mN, hC, hN, hni, T⟩ := exc_obj I.kIn q
  exact wpAny_call_exc_subT F T hC hN hni (fun h' e hm => mk_of I hm r h (I.hok.gone hm.new)) (Nat.zero_le _)
theorem js_raise0 (hc : X.calm = true) (tk : Takes X c.Wx) (E : ExKn X.K X.mg c.g x cl) (hg : Gl X x) (hdb : (x == ("__debug__" : PySem.Str)) = false) :
    JS X c (.Raise (some (.Call (.Name x p) [] [] pos)) none pos2) (fun δ M => some (.exc ⟨cl, []⟩ δ M)) := by
  obtain ⟨B, newId, initId, bmB, F, q⟩ := E.exc
  exact js_imp (ps_raise hc tk (pmk_own0 F q E.gC E.kC (raises_own E.exC E.tyC) hg hdb)) fun W δ M σ H D p r => r W H σ _ _ .refl p ⟨rfl, .inl rfl⟩
theorem js_raiseI {ks : List Nat} {k : Nat} (hc : X.calm = true) (tk : Takes X c.Wx) (E : ExIn X.prog X.w X.K X.mg X.base c.g x cl ks k) (hr : Room (k + 1) X.A) (hg : Gl X x) (hdb : (x == ("__debug__" : PySem.Str)) = false) (ha : JA X c (e :: es) fs)
    (he : starEach (e :: es) X.env = (false, eval e X.env) :: starEach es X.env) (hpl : (backTo pos (starEach es X.env)).any (·.1) = false) :
    JS X c (.Raise (some (.Call (.Name x p) (e :: es) [] pos)) none pos2) (fun δ M => bndS δ (fs δ M) fun ds M1 => if ds.length = ks.length then some (.exc ⟨cl, ks.zip ds⟩ δ M1) else none) := by
  obtain ⟨fI, fd, ps, iC, tI, hb, F⟩ := E.ex
  refine js_imp (ps_raise hc tk (pmk_oex E.T iC tI F hr hb (dvs := []) .nil passL hg E.gC ha hdb he hpl)) fun W δ M σ H D p r => ?_
  refine (ResS.step (R := RL c.g) (f := fs) p r).mono fun vs H1 ⟨W1, ds, M1, e1, p1, rd, r1⟩ => ?_
  split at r1
  case isFalse => exact r1.elim
  rename_i hl
  have endA : ∀ (a d : Addr) (H2 : Hp) (fv : List (PySem.Str × V)), H1 a = none → H1 d = none → d ≠ a → H2 a = some (exo a (c.g.ca cl) (some d)) → H2 d = some (exd d fv) → (∀ b, b ≠ a → b ≠ d → H2 b = H1 b) →
      (∀ W', Ext c.g.K W1 H1 W' (upd H1 d (.xd fv)) → ∀ f y, (ks.zip ds).lookup f = some y → ∃ v, fv.lookup (nm f) = some v ∧ Rep c.g.K W' (upd H1 d (.xd fv)) y v) →
      ∃ (d : Addr) (fs : List (PySem.Str × V)), H2 a = some (exo a (c.g.ca cl) (some d)) ∧ H2 d = some (exd d fs) ∧ H1 d = none ∧ c.Wx (.ref (c.g.ca cl)) (some d) σ (upd (L2.del H2 a) d (.xd fs)) := by
    intro a d H2 fv ha hd hda h1 h2 h3 h4
    have eH : upd (L2.del H2 a) d (.xd fv) = upd H1 d (.xd fv) := by
      funext b
      by_cases hb : b = d
      · rw [hb, upd_same, upd_same]
      · rw [upd_ne hb, upd_ne hb]
        by_cases hba : b = a
        · rw [hba, del_same, ha]
        · rw [del_ne hba, h3 b hba hb]
    refine ⟨d, fv, h1, h2, hd, ?_⟩
    rw [eH]
    obtain ⟨e2, s2⟩ := p1.sr.beside (o := .xd fv) hd
    exact r1 W1 _ σ _ _ e2 (p1.up e2 s2) ⟨rfl, .inr ⟨d, fv, rfl, upd_same, h4 W1 e2⟩⟩
  have hlen := rd.length
  have nd := E.nd
  have le := E.le
  match ks, hl, endA, nd, le with
  | [f], hl, endA, nd, _ =>
    obtain ⟨d1, rfl⟩ : ∃ d1, ds = [d1] := by
      match ds, hl with
      | [d1], _ => exact ⟨d1, rfl⟩
    obtain ⟨v1, rfl, rv1⟩ := rd.one
    refine ⟨by show 1 ≤ 1000; omega, fun a ha => ⟨a, v1, rfl, upd_same, fun dx hdx hne => ⟨rfl, ?_⟩⟩⟩
    rw [upd_ne hne] at hdx
    refine endA a dx _ [(nm f, v1)] ha hdx hne upd_same (by rw [upd_ne hne, upd_same]) (fun b h1 h2 => by rw [upd_ne h1, upd_ne h2, upd_ne h1]) fun W' e' g y hg => ?_
    simp only [List.zip_cons_cons, List.zip_nil_left, List.lookup_cons] at hg
    cases q : g == f with
    | true =>
      rw [q] at hg
      cases hg
      refine ⟨v1, ?_, rv1.up e'⟩
      rw [List.lookup_cons, nm_beq, q]
    | false => rw [q] at hg; cases hg
  | [f, f2], hl, endA, nd, _ =>
    obtain ⟨d1, d2, rfl⟩ : ∃ d1 d2, ds = [d1, d2] := by
      match ds, hl with
      | [d1, d2], _ => exact ⟨d1, d2, rfl⟩
    obtain ⟨v1, v2, rfl, rv1, rv2⟩ := rd.two
    refine ⟨by show 2 ≤ 1000; omega, fun a ha => ⟨a, v1, v2, rfl, upd_same, fun dx hdx hne => ⟨rfl, ?_⟩⟩⟩
    rw [upd_ne hne] at hdx
    refine endA a dx _ [(nm f2, v2), (nm f, v1)] ha hdx hne (by rw [upd_ne (Ne.symm hne), upd_same]) upd_same (fun b h1 h2 => by rw [upd_ne h2, upd_ne h1, upd_ne h2, upd_ne h1]) fun W' e' g y hg => ?_
    have hff : f ≠ f2 := by
      intro z
      rw [List.nodup_cons] at nd
      exact nd.1 (by simp [z])
    simp only [List.zip_cons_cons, List.zip_nil_left, List.lookup_cons] at hg
    cases q : g == f with
    | true =>
      rw [q] at hg
      cases hg
      refine ⟨v1, ?_, rv1.up e'⟩
      have q2 : (g == f2) = false := by
        have : g = f := by simpa using q
        simpa [this] using hff
      rw [List.lookup_cons, nm_beq, q2]
      dsimp only
      rw [List.lookup_cons, nm_beq, q]
    | false =>
      rw [q] at hg
      dsimp only at hg
      cases q2 : g == f2 with
      | true =>
        rw [q2] at hg
        cases hg
        refine ⟨v2, ?_, rv2.up e'⟩
        rw [List.lookup_cons, nm_beq, q2]
      | false => rw [q2] at hg; cases hg
  | [], hl, endA, nd, le => exact absurd le (by simp)
  | f :: f2 :: f3 :: r, hl, endA, nd, le => exact absurd le (by simp)
end
/-- what isinstance asks of an exception's class -/
structure XiC (K : PySem.W.Frag) (D : Addr) : Prop where
  cl : (PySem.W.clsIn K D).isSome = true
  ha : PySem.W.findIn K (.ref D) "__class__" = some (some (.builtin "object.__class__"))
  hn : PySem.W.specialIn K (.builtin "object.__class__") "__get__" = some (some (.builtin "getset_descriptor.__get__"))
  ht : PySem.W.takesIn K (.builtin "object.__class__") = some true
  hm : PySem.W.mroIn K D (.type "object") = some true
/-- isinstance(e, c), e the handled exception with fields -/
def rIsX (K : PySem.W.Frag) (D a dd : Addr) : List V → Hp → VK → Prop := fun xs H Q => ∃ (C : Addr) (b : Bool), xs = [.ref a, .ref C] ∧ (∃ fs, H dd = some (.xd fs)) ∧ PySem.W.kitOne K (.ref D) (.ref C) = some b ∧ Q (.bl b) H
theorem call_isX {X : Cx} {a D dd : Addr} {oe : Obj} {pn : List (Addr × Obj)} (T : XfC X.K D) (C : XiC X.K D) (hz : Zc (.ref D) (some dd) oe) (hf : ∃ vs, oe.data = .fields vs) : CallR (X.suite a ((a, oe) :: pn)) (.builtin "isinstance") (rIsX X.K D a dd) := by
  intro pins s σ H xs us Q I r h
  obtain ⟨Cc, b, rfl, ⟨fs, hd⟩, e, q⟩ := h
  cases r with
  | cons rx rr =>
    cases rr with
    | cons rt rr =>
      cases rr
      cases rx
      cases rt
      obtain ⟨hget, _⟩ := I.pin (a, oe) (List.mem_append.mpr (.inl List.mem_cons_self))
      obtain ⟨vs, hv⟩ := hf
      have hx : ObjOk X.prog X.w H s.heap dd (.xd fs) := I.hok dd _ hd
      obtain ⟨mA, hns, hr⟩ := hx
      obtain ⟨od, ho, hl⟩ := lookIn_ns hns
      have J : PySem.W.InstAt s.heap a oe D (some od) := ⟨hget, hz.1, by unfold PySem.W.notCls; rw [hv] <;> rfl, by rw [hz.2]; exact ho⟩
      exact PySem.W.kia_one (PySem.W.kitx_exc C.cl T.ga T.gg T.exC C.ha C.hn C.ht C.hm) I.kIn J e (fun z => nomatch z) fun tk => ⟨.bl b, H, I.kept (t' := tk) fun _ _ z => z, rfl, q⟩
theorem kit_tab {K : PySem.W.Frag} {g : Gd} {n i h : Nat} (t : ExTab K g n) (hi : i < n) (hh : h < n) : PySem.W.kitOne K (.ref (g.ca i)) (.ref (g.ca h)) = some (catches h i) := by
  have e1 := t i h hi hh
  unfold PySem.W.kitOne
  by_cases c : ((Value.ref (g.ca i)) == (Value.ref (g.ca h))) = true
  · rw [if_pos c]
    have c2 : Value.ref (g.ca i) = Value.ref (g.ca h) := beq_iff_eq.mp c
    have e2 := t i i hi hi
    rw [← c2, e2] at e1
    have e3 : catches i i = true := by unfold catches; simp
    rw [e3] at e1
    exact e1
  · rw [if_neg c]
    unfold PySem.W.exmOne at e1
    split at e1
    · exact e1
    · cases e1
section
variable {X : Cx} {c : Cf} {pos p p2 p3 : Pos}
theorem je_xis {Y : Cx} {a : Addr} {oe : Obj} {cls : Value} {dd : Option Addr} {pn : List (Addr × Obj)} {x : Exn} {h i n : Nat} {xn y : Str} (hX : X = Y.suite a ((a, oe) :: pn)) (hcx : c.cx = some (x, dd, a, i)) (ecl : cls = .ref (c.g.ca x.cls)) (hK : c.g.K = X.K) (T : XfC X.K (c.g.ca x.cls)) (T2 : XiC X.K (c.g.ca x.cls)) (tab : ExTab X.K c.g n) (hlt : x.cls < n) (hh : h < n)
    (hz : Zc cls dd oe) (hf : ∃ vs, oe.data = .fields vs) (hN : X.N[i]? = some xn) (hv : Vis X.env.scope xn) (hd : (xn == ("__debug__" : Str)) = false) (hcd : (xn == ("__classdict__" : Str)) = false)
    (hg : Gl X "isinstance") (hm : X.mg "isinstance" = none) (hgy : Gl X y) (hmy : X.mg y = some (.ref (c.g.ca h))) (hdy : (y == ("__debug__" : Str)) = false) :
    JE X c (.Call (.Name "isinstance" p) [.Name xn p2, .Name y p3] [] pos) (fun δ M => match δ[i]? with
      | some (some .exr) => if x.fs ≠ [] then rok (.bl (catches h x.cls)) M else none
      | _ => none) := by
  subst hX
  cases dd with
  | none =>
    refine ⟨fun pins s σ H Q I ⟨W, δ, M, q, r⟩ => ?_⟩
    dsimp only at r
    split at r
    · split at r
      · rename_i hi hfs
        obtain ⟨hx, hs⟩ := q.cur x none a i hcx
        rcases hx with hx | ⟨d, fv, h1, h2, h3⟩
        · exact absurd hx hfs
        · cases h1
      · exact r.elim
    · exact r.elim
  | some dd =>
    subst ecl
    refine je_imp (pe_callB (call_isX T T2 hz hf) hg hm (by decide +kernel) (pa_cons (pe_var hN hv hd hcd) (pa_cons (pe_glob hgy hmy (v := .ref (c.g.ca h)) rfl hdy) pa_nil)) (by decide) (by decide)) fun W δ M σ H Q q r => ?_
    split at r
    · split at r
      · rename_i hi hfs
        obtain ⟨hx, hs⟩ := q.cur x (some dd) a i hcx
        rcases hx with hx | ⟨d, fv, h1, h2, h3⟩
        · exact absurd hx hfs
        · cases h1
          exact ⟨.ref a, hs hi, _, _, rfl, ⟨_, h2⟩, kit_tab tab hlt hh, r.done q.sr rfl⟩
      · exact r.elim
    · exact r.elim
end
end Mo
/-! Mo10: the text's forms. -/
namespace Mo
open PySem PySem.Spec L2
open PyProof.Rows hiding St

def noStar : Expr → Bool
  | .Starred _ _ => false
  | _ => true
def noStars : List Expr → Bool
  | [] => true
  | e :: es => noStar e && noStars es
theorem starEach_cons {e : Expr} {es : List Expr} {env : Env} (h : noStar e = true) : starEach (e :: es) env = (false, eval e env) :: starEach es env := by
  cases e <;> first | rfl | cases h
theorem backTo_any {pos : Pos} {env : Env} : ∀ {es : List Expr}, noStars es = true → (backTo pos (starEach es env)).any (·.1) = false
  | [], _ => rfl
  | e :: es, h => by
    unfold noStars at h
    rw [Bool.and_eq_true] at h
    rw [starEach_cons h.1]
    show (false || (backTo pos (starEach es env)).any (·.1)) = false
    rw [backTo_any h.2]
    rfl
theorem backTo_all {pos : Pos} {env : Env} : ∀ {es : List Expr}, noStars es = true → (backTo pos (starEach es env)).all (!·.1) = true
  | [], _ => rfl
  | e :: es, h => by
    unfold noStars at h
    rw [Bool.and_eq_true] at h
    rw [starEach_cons h.1]
    show (!false && (backTo pos (starEach es env)).all (!·.1)) = true
    rw [backTo_all h.2]
    rfl
def noSup : Expr → Bool
  | .Call (.Name _ _) [] [] _ => false
  | _ => true
theorem attrBase {o : Expr} {m : PySem.Str} {env : Env} {x : Sem Value} (h : noSup o = true) : attributeBase o m env x = x := by
  unfold attributeBase
  split
  · cases h
  · rfl
theorem mcall_ok {o : Expr} {m : PySem.Str} {es : List Expr} {apos pos : Pos} {env : Env} (h1 : noSup o = true) (h2 : noStars es = true) (h3 : es.length < 30) (h4 : (apos.endLine == pos.line) = true) :
    eval (.Call (.Attribute o m apos) es [] pos) env = (do
      let ov ← eval o env
      standAt apos.atName
      let (f, first) ← holding [ov] (getMethod ov m (do return (← importBound o env).getD true))
      callWith pos f first (backTo pos (starEach es env)) (backToKw pos (keywordEach [] env))) := by
  have hf : methodCallForm (es.length + ([] : List Keyword).length) (backTo pos (starEach es env)) (backToKw pos (keywordEach [] env)) = true := by
    unfold methodCallForm
    rw [backTo_all h2]
    show (true && true && decide (es.length + 0 + 0 < 30)) = true
    simp
    exact h3
  rw [show eval (.Call (.Attribute o m apos) es [] pos) env = (do
    let ov ← attributeBase o m env (eval o env)
    standAt apos.atName
    methodCall o m apos pos env ov (es.length + ([] : List Keyword).length) (backTo pos (starEach es env)) (backToKw pos (keywordEach [] env))) from rfl]
  rw [attrBase h1]
  unfold methodCall
  rw [hf]
  unfold calleeOf methodCallPos
  rw [h4]
  rfl
theorem mcall_okW {o : Expr} {m : PySem.Str} {es : List Expr} {apos pos kpos : Pos} {env : Env} {kw : PySem.Str} {e : Expr} (h1 : noSup o = true) (h2 : noStars es = true) (h3 : es.length + 1 + 1 < 30) (h4 : (apos.endLine == pos.line) = true) :
    eval (.Call (.Attribute o m apos) es [⟨some kw, e, kpos⟩] pos) env = (do
      let ov ← eval o env
      standAt apos.atName
      let (f, first) ← holding [ov] (getMethod ov m (do return (← importBound o env).getD true))
      callWith pos f first (backTo pos (starEach es env)) (backToKw pos (keywordEach [⟨some kw, e, kpos⟩] env))) := by
  have hf : methodCallForm (es.length + ([⟨some kw, e, kpos⟩] : List Keyword).length) (backTo pos (starEach es env)) (backToKw pos (keywordEach [⟨some kw, e, kpos⟩] env)) = true := by
    unfold methodCallForm
    rw [backTo_all h2]
    show (true && true && decide (es.length + 1 + 1 < 30)) = true
    simp
    exact h3
  rw [show eval (.Call (.Attribute o m apos) es [⟨some kw, e, kpos⟩] pos) env = (do
    let ov ← attributeBase o m env (eval o env)
    standAt apos.atName
    methodCall o m apos pos env ov (es.length + ([⟨some kw, e, kpos⟩] : List Keyword).length) (backTo pos (starEach es env)) (backToKw pos (keywordEach [⟨some kw, e, kpos⟩] env))) from rfl]
  rw [attrBase h1]
  unfold methodCall
  rw [hf]
  unfold calleeOf methodCallPos
  rw [h4]
  rfl
def isComp : Expr → Bool
  | .ListComp _ _ _ _ => true
  | .SetComp _ _ _ _ => true
  | .DictComp _ _ _ _ _ => true
  | _ => false
theorem swapsWith_no {e : Expr} {t : Option Expr} {l : Nat} {env : Env} (h : isComp e = false) : swapsWith e t l env = pure false := by
  cases e <;> first | rfl | cases h
theorem swapsSole_no {tg e : Expr} {l : Nat} {env : Env} (h : isComp e = false) : swapsWithSole [tg] e l env = pure false := swapsWith_no h
def isSeqT : Expr → Bool
  | .Tuple _ _ _ => true
  | .List _ _ => true
  | _ => false
def isTupE : Expr → Bool
  | .Tuple _ _ _ => true
  | _ => false
theorem swapped_no {tg e : Expr} {env : Env} (h : (isSeqT tg && isTupE e) = false) : swappedStores [tg] e env = pure none := by
  cases tg <;> first | rfl | (cases e <;> first | rfl | cases h)
def isNmE : Expr → Bool
  | .Name _ _ => true
  | _ => false
def tgsOf : Expr → List Expr
  | .Tuple ts _ _ => ts
  | .List ts _ => ts
  | _ => []
def valsOf : Expr → List Expr
  | .Tuple ts _ _ => ts
  | _ => []
/-- no names are stored in another order -/
def swNo (tg e : Expr) : Bool := !(isSeqT tg && isTupE e) || (!(tgsOf tg).all isNmE || (valsOf e).all (foldedForSure 8))
theorem filt_lt {α : Type} {f : Expr → Option α} (hf : ∀ t, isNmE t = false → f t = none) : ∀ {ts : List Expr}, ts.all isNmE = false → (ts.filterMap f).length ≠ ts.length
  | [], h => by cases h
  | t :: ts, h => by
    have hle := List.length_filterMap_le f ts
    rw [List.filterMap_cons]
    cases c : isNmE t with
    | false => rw [hf t c]; dsimp only; rw [List.length_cons]; omega
    | true =>
      rw [List.all_cons, c, Bool.true_and] at h
      have ih := filt_lt hf h
      cases f t with
      | none => dsimp only; rw [List.length_cons]; omega
      | some a => dsimp only; rw [List.length_cons, List.length_cons]; omega
theorem swapped_aux {ts vs : List Expr} {env : Env} (h : ts.all isNmE = false ∨ vs.all (foldedForSure 8) = true) : (do
    if !(ts.length == 2 || ts.length == 3) || vs.length != ts.length || env.blockKind != .function then return none
    if vs.any fun | .Starred .. => true | _ => false then return none
    let line := (ts.head?.map (·.pos.line)).getD 0
    let names := ts.filterMap fun
      | .Name id pos => if env.kindOf id == some .local && pos.line == line then some id else none
      | _ => none
    if names.length != ts.length || names.eraseDups.length != names.length then return none
    if vs.all (foldedForSure 8) then return none
    if vs.all (constantsAlone 8) then unsupported "assign.tuple-of-constant-expressions:order-of-the-stores"
    return some names : Sem (Option (List PySem.Str))) = pure none := by
  split
  · rfl
  · split
    · rfl
    · dsimp only
      split
      · rfl
      · rename_i h3
        rcases h with h | h
        · exfalso
          have := filt_lt (f := fun
            | .Name id pos => if env.kindOf id == some .local && pos.line == (ts.head?.map (·.pos.line)).getD 0 then some id else none
            | _ => none) (fun t ht => by cases t <;> first | rfl | cases ht) h
          apply h3
          rw [Bool.or_eq_true]
          exact .inl (bne_iff_ne.mpr this)
        · rw [if_pos h]
theorem swapped_no2 {tg e : Expr} {env : Env} (h : swNo tg e = true) : swappedStores [tg] e env = pure none := by
  unfold swNo at h
  rw [Bool.or_eq_true, Bool.not_eq_true', Bool.or_eq_true, Bool.not_eq_true'] at h
  rcases h with h | h
  · exact swapped_no h
  · cases tg with
    | Tuple ts a b =>
      cases e with
      | Tuple vs a2 b2 => exact swapped_aux h
      | _ => rfl
    | List ts a =>
      cases e with
      | Tuple vs a2 b2 => exact swapped_aux h
      | _ => rfl
    | _ => rfl
/-- two names that are stored at once -/
def parB (sc : Scope) (x y : PySem.Str) (px py : Pos) (a b : Expr) : Bool := (sc.names.lookup x == some .local) && ((sc.names.lookup y == some .local) && ((py.line == px.line) && (!(x == y) && (noStars [a, b] && (!([a, b].all (foldedForSure 8)) && !([a, b].all (constantsAlone 8)))))))
theorem swapped_par {env : Env} {x y : PySem.Str} {px py pt : Pos} {kt k2 : Nat} {pt2 : Pos} {a b : Expr} (hb : env.blockKind = .function) (h : parB env.scope x y px py a b = true) :
    swappedStores [.Tuple [.Name x px, .Name y py] kt pt] (.Tuple [a, b] k2 pt2) env = pure (some [x, y]) := by
  unfold parB at h
  simp only [Bool.and_eq_true, beq_iff_eq, Bool.not_eq_true', beq_eq_false_iff_ne, ne_eq] at h
  obtain ⟨h1, h2, h3, h4, h5, h6, h7⟩ := h
  have s1 : ([a, b].any fun | .Starred .. => true | _ => false) = false := by
    unfold noStars noStars noStars at h5
    cases a <;> cases b <;> first | rfl | cases h5
  show (do
    if !([Expr.Name x px, Expr.Name y py].length == 2 || [Expr.Name x px, Expr.Name y py].length == 3) || [a, b].length != [Expr.Name x px, Expr.Name y py].length || env.blockKind != .function then return none
    if [a, b].any fun | .Starred .. => true | _ => false then return none
    let line := ([Expr.Name x px, Expr.Name y py].head?.map (·.pos.line)).getD 0
    let names := [Expr.Name x px, Expr.Name y py].filterMap fun
      | .Name id pos => if env.kindOf id == some .local && pos.line == line then some id else none
      | _ => none
    if names.length != [Expr.Name x px, Expr.Name y py].length || names.eraseDups.length != names.length then return none
    if [a, b].all (foldedForSure 8) then return none
    if [a, b].all (constantsAlone 8) then unsupported "assign.tuple-of-constant-expressions:order-of-the-stores"
    return some names : Sem (Option (List PySem.Str))) = _
  rw [hb, s1, h6, h7]
  have e1 : env.kindOf x = some .local := h1
  have e2 : env.kindOf y = some .local := h2
  have e3 : ([Expr.Name x px, Expr.Name y py].filterMap fun
      | .Name id pos => if env.kindOf id == some .local && pos.line == (([Expr.Name x px, Expr.Name y py].head?.map (·.pos.line)).getD 0) then some id else none
      | _ => none) = [x, y] := by
    have e4 : (([Expr.Name x px, Expr.Name y py].head?.map (·.pos.line)).getD 0) = px.line := rfl
    rw [e4]
    simp [List.filterMap_cons, e1, e2, h3]
  dsimp only
  rw [e3]
  have e5 : [x, y].eraseDups = [x, y] := by
    have : (y == x) = false := by simpa using fun z : y = x => h4 z.symm
    simp [List.eraseDups_cons, this]
  rw [e5]
  rfl
theorem assignEach1 {tg : Expr} {env : Env} (h : noStar tg = true) : (assignEach [tg] env).map (·.2) = [assign tg env] := by
  cases tg <;> first | rfl | cases h
theorem assignEach_cons {tg : Expr} {ts : List Expr} {env : Env} (h : noStar tg = true) : (assignEach (tg :: ts) env).map (·.2) = assign tg env :: (assignEach ts env).map (·.2) := by
  cases tg <;> first | rfl | cases h
theorem assignEach_len {env : Env} : ∀ ts : List Expr, (assignEach ts env).length = ts.length
  | [] => rfl
  | t :: ts => by
    have ih := assignEach_len (env := env) ts
    cases t <;> exact congrArg (· + 1) ih
theorem assignEach_star {env : Env} : ∀ {ts : List Expr}, noStars ts = true → (assignEach ts env).findIdx? (·.1) = none
  | [], _ => rfl
  | t :: ts, h => by
    unfold noStars at h
    rw [Bool.and_eq_true] at h
    have ih := assignEach_star (env := env) h.2
    have e : ∃ f, assignEach (t :: ts) env = (false, f) :: assignEach ts env := by
      have h1 := h.1
      cases t <;> first | exact ⟨_, rfl⟩ | cases h1
    obtain ⟨f, e⟩ := e
    rw [e, List.findIdx?_cons]
    simp [ih]
def isSet : Expr → Bool
  | .Set _ _ _ => true
  | _ => false
theorem folded_no {e : Expr} {env : Env} (h : isSet e = false) : ∀ x, foldedSetIterable e env x = pure x := fun x => by
  cases e <;> first | rfl | cases h
theorem behind_no {op : CmpOp} {e : Expr} (h : isSet e = false) : behindInMarks op e = false := by
  cases e <;> first | rfl | cases h
theorem lastMarks_no {o1 o2 : CmpOp} {e1 e2 : Expr} (h : isSet e2 = false) : lastMarks [o1, o2] [e1, e2] = false := behind_no h
/-- a test by its value's truth -/
def plainT : Expr → Bool
  | .UnaryOp .Not _ _ => false
  | .BoolOp _ _ _ => false
  | .IfExp _ _ _ _ => false
  | .Compare _ _ _ _ => false
  | _ => true
theorem plainT_ok {e : Expr} {env : Env} (h : plainT e = true) : ∀ whole, isTrue e env whole = (do let v ← whole; standAt e.pos; holding [v] (truthy v)) := fun whole => by
  cases e with
  | UnaryOp op _ _ => cases op <;> first | rfl | cases h
  | _ => first | rfl | cases h
def isSlice : Expr → Bool
  | .Slice _ _ _ _ => true
  | _ => false
theorem plainIx_ok {e : Expr} (h : isSlice e = false) : PlainIx e := fun o i => by
  cases e <;> first | rfl | cases h
theorem noSl_ok {e : Expr} (h : isSlice e = false) : NoSl e := fun o i => by
  cases e <;> first | rfl | cases h
theorem assignSub {o i : Expr} {pos : Pos} {env : Env} (h : isSlice i = false) : ∀ v, assign (.Subscript o i pos) env v = (do
      let ov ← holding [v] (eval o env)
      let iv ← holding [v, ov] (eval i env)
      standAt pos
      holding [v, ov, iv] (setItem ov iv v)
      release [v, ov, iv] []) := fun v => by
  cases i <;> first | rfl | cases h

/-! ### comparisons, once for values and tests -/
abbrev JC (X : Cx) (c : Cf) (o : CmpOp) (a b : Expr) (f : Sl → Store → Rs D) : Prop := PC X o a b (tG c.g c.cx c.Wx (RD c.g) f)
section
variable {X : Cx} {c : Cf} {e e1 e2 e3 o : Expr} {es : List Expr} {f f1 f2 f3 : Sl → Store → Rs D} {fs : Sl → Store → Rs (List D)} {pos p apos : Pos} {x : PySem.Str} {op op2 : CmpOp}
theorem PC.imp {t t' : TE} (h : PC X op e1 e2 t) (hi : ∀ σ H Q, t' σ H Q → t σ H Q) : PC X op e1 e2 t' := ⟨fun pins s σ H Q I q => h.run pins s σ H Q I (hi σ H Q q)⟩
theorem jc_op {r : R2} {p : List D → Store → Option PO} {m : Bool} (ho : OpR X (compareOp op) r) (ok : Ok2 c.g r p) (h1 : JE X c e1 f1) (h2 : JE X c e2 f2) :
    JC X c op e1 e2 (fun δ M => bnd (f1 δ M) fun d1 M1 => bnd (f2 δ M1) fun d2 M2 => po m M2 (p [d1, d2] M2)) := by
  refine ⟨fun pins s σ H Q I ⟨W, δ, M, q, r1⟩ => binT h1 h2 I (R := fun x y H2 => r x y H2 Q) ?_ fun v u s2 x y H2 I2 rx ry q => ho pins s2 σ H2 x y v u Q I2 rx ry q⟩
  exact (Res.step (R := RD c.g) (f := f1) q r1).mono fun x H1 ⟨W1, d1, M1, ex1, p1, rd1, r1⟩ => (Res.step (R := RD c.g) (f := f2) p1 r1).mono fun y H2 ⟨W2, d2, M2, ex2, p2, rd2, r2⟩ =>
    ok W2 H2 M2 d1 d2 x y Q p2.sr (rd1.up ex2) rd2 (po_pres p2.sr r2)
theorem jc_din {m : Bool} (hu : X.A.units + 1 < cLine) (h1 : JE X c e1 f1) (ho : JE X c o f) :
    JC X c .In e1 o (fun δ M => bnd (f1 δ M) fun y M1 => bnd (f δ M1) fun d M2 => po m M2 (pDin [y, d] M2)) := PC.imp (pc_din hu h1 ho) fun σ H Q ⟨W, δ, M, q, r⟩ =>
  (Res.step (R := RD c.g) (f := f1) q r).mono fun x H1 ⟨W1, d1, M1, ex1, p1, rd1, r1⟩ => (Res.step (R := RD c.g) (f := f) p1 r1).mono fun y H2 ⟨W2, d2, M2, ex2, p2, rd2, r2⟩ => by
    unfold pDin at r2
    split at r2
    · rename_i he
      cases he
      split at r2
      · rename_i z hz
        obtain ⟨a, ov, rfl, _, dg, hn, hs⟩ := getD_ok p2.sr rd2 (rd1.up ex2) hz
        refine ⟨a, ov, rfl, dg, ?_⟩
        have e : ov.isSome = z.isSome := by
          cases z with
          | none => rw [hn rfl]; rfl
          | some z => obtain ⟨v, rfl, _⟩ := hs z rfl; rfl
        rw [e]
        exact r2.done p2.sr rfl
      · exact r2.elim
    · exact r2.elim
theorem jc_dnotin {m : Bool} (hu : X.A.units + 1 < cLine) (h1 : JE X c e1 f1) (ho : JE X c o f) :
    JC X c .NotIn e1 o (fun δ M => bnd (f1 δ M) fun y M1 => bnd (f δ M1) fun d M2 => po m M2 (pDnotIn [y, d] M2)) := PC.imp (pc_dnotin hu h1 ho) fun σ H Q ⟨W, δ, M, q, r⟩ =>
  (Res.step (R := RD c.g) (f := f1) q r).mono fun x H1 ⟨W1, d1, M1, ex1, p1, rd1, r1⟩ => (Res.step (R := RD c.g) (f := f) p1 r1).mono fun y H2 ⟨W2, d2, M2, ex2, p2, rd2, r2⟩ => by
    unfold pDnotIn at r2
    split at r2
    · rename_i he
      cases he
      split at r2
      · rename_i z hz
        obtain ⟨a, ov, rfl, _, dg, hn, hs⟩ := getD_ok p2.sr rd2 (rd1.up ex2) hz
        refine ⟨a, ov, rfl, dg, ?_⟩
        have e : ov.isSome = z.isSome := by
          cases z with
          | none => rw [hn rfl]; rfl
          | some z => obtain ⟨v, rfl, _⟩ := hs z rfl; rfl
        rw [e]
        exact r2.done p2.sr rfl
      · exact r2.elim
    · exact r2.elim
theorem je_c (h : JC X c op e1 e2 f) (hm : behindInMarks op e2 = false) : JE X c (.Compare e1 [op] [e2] pos) f := pe_cmp h hm
/-- only a bool comes out -/
def BlF (f : Sl → Store → Rs D) : Prop := ∀ δ M d M', f δ M = some (.ok d M') → ∃ b, d = .bl b
theorem jt_of {t : TE} (ht : t = tG c.g c.cx c.Wx (RD c.g) f) (h : PT X e (tB t)) (hb : BlF f) : JT X c e (tst f) := jt_imp h fun W δ M σ H Q p r => by
  subst ht
  refine ⟨W, δ, M, p, ?_⟩
  unfold tst at r
  cases q : f δ M with
  | none => rw [q] at r; exact r
  | some o =>
    rw [q] at r
    cases o with
    | exc x M1 => exact r
    | ok d M1 =>
      obtain ⟨b, rfl⟩ := hb δ M d M1 q
      intro W1 H1 v e1 s1 rv
      cases rv
      exact ⟨b, rfl, r W1 H1 b e1 s1 rfl⟩
theorem jt_c (h : JC X c op e1 e2 f) (hm : behindInMarks op e2 = false) (hb : BlF f) : JT X c (.Compare e1 [op] [e2] pos) (tst f) := jt_of rfl (pt_cmp h hm) hb
/-- a op b op c -/
def chF (p q : List D → Store → Option PO) (f1 f2 f3 : Sl → Store → Rs D) : Sl → Store → Rs D := fun δ M => bnd (f1 δ M) fun d1 M1 => bnd (f2 δ M1) fun d2 M2 => match p [d1, d2] M2 with
    | some (.v (.bl true) M3) => bnd (f3 δ M3) fun d3 M4 => match q [d2, d3] M4 with
      | some (.v d M5) => rok d M5
      | _ => none
    | some (.v (.bl false) M3) => rok (.bl false) M3
    | _ => none
theorem chain_t {r r' : R2} {p q : List D → Store → Option PO} (ok : Ok2 c.g r p) (ok' : Ok2 c.g r' q) : ∀ σ H Q, tG c.g c.cx c.Wx (RD c.g) (chF p q f1 f2 f3) σ H Q →
    tChain r r' (tG c.g c.cx c.Wx (RD c.g) f1) (tG c.g c.cx c.Wx (RD c.g) f2) (tG c.g c.cx c.Wx (RD c.g) f3) σ H Q := fun σ H Q ⟨W, δ, M, pq, r1⟩ =>
  (Res.step (R := RD c.g) (f := f1) pq r1).mono fun x H1 ⟨W1, d1, M1, ex1, p1, rd1, r1⟩ => (Res.step (R := RD c.g) (f := f2) p1 r1).mono fun y H2 ⟨W2, d2, M2, ex2, p2, rd2, r2⟩ => by
    refine ok W2 H2 M2 d1 d2 x y _ p2.sr (rd1.up ex2) rd2 ?_
    split at r2
    · rename_i M3 hq
      rw [hq]
      intro W3 H3 v ex3 s3 rv
      cases rv
      refine ⟨true, rfl, ?_⟩
      rw [if_pos rfl]
      refine (Res.step (R := RD c.g) (f := f3) (p2.up ex3 s3) (r2.up ex3)).mono fun z H4 ⟨W4, d3, M4, ex4, p4, rd4, r4⟩ => ok' W4 H4 M4 d2 d3 y z Q p4.sr ((rd2.up ex3).up ex4) rd4 ?_
      split at r4
      · rename_i d M5 hq2
        rw [hq2]
        exact r4
      · exact r4.elim
    · rename_i M3 hq
      rw [hq]
      intro W3 H3 v ex3 s3 rv
      cases rv
      refine ⟨false, rfl, ?_⟩
      rw [if_neg (by simp)]
      exact r2 W3 H3 _ ex3 s3 rfl
    · exact r2.elim
theorem je_chain {r r' : R2} {p q : List D → Store → Option PO} (ho : OpR X (compareOp op) r) (ho' : OpR X (compareOp op2) r') (ok : Ok2 c.g r p) (ok' : Ok2 c.g r' q) (h1 : JE X c e1 f1) (h2 : JE X c e2 f2) (h3 : JE X c e3 f3) (hm : lastMarks [op, op2] [e2, e3] = false) :
    JE X c (.Compare e1 [op, op2] [e2, e3] pos) (chF p q f1 f2 f3) := PE.imp (pe_chain ho ho' h1 h2 h3 hm) (chain_t ok ok')
theorem jt_chain {r r' : R2} {p q : List D → Store → Option PO} (ho : OpR X (compareOp op) r) (ho' : OpR X (compareOp op2) r') (ok : Ok2 c.g r p) (ok' : Ok2 c.g r' q) (h1 : JE X c e1 f1) (h2 : JE X c e2 f2) (h3 : JE X c e3 f3) (hm : lastMarks [op, op2] [e2, e3] = false) (hb : BlF (chF p q f1 f2 f3)) :
    JT X c (.Compare e1 [op, op2] [e2, e3] pos) (tst (chF p q f1 f2 f3)) := jt_of (f := chF p q f1 f2 f3) rfl (PT.imp (pt_chain ho ho' h1 h2 h3 hm) fun σ H Q h => chain_t ok ok' σ H _ h) hb

/-! ### more expressions -/
/-- a global of the written part -/
structure GbKn (K : PySem.W.Frag) (mg : PySem.Str → Option Value) (x : PySem.Str) (d : D) : Prop where
  ex : ∃ u v, mg x = some u ∧ RelV v u ∧ ∀ W H, Rep K W H d v
theorem je_glb {d : D} (hg : Gl X x) (G : GbKn c.g.K X.mg x d) (hd : (x == ("__debug__" : PySem.Str)) = false) : JE X c (.Name x pos) (fun _ M => rok d M) := by
  obtain ⟨u, v, h1, h2, h3⟩ := G.ex
  exact je_con (pe_glob hg h1 h2 hd) h3
theorem je_frz (h : JE X c e f) : JE X c e (fun δ M => bnd (f δ M) fun d M1 => match d with
    | .oid n => match M1[n]? with
      | some (.lst xs) => rok (.lst xs) (M1.set n .dead)
      | _ => none
    | _ => none) := je_imp h fun W δ M σ H Q p r => (Res.step (R := RD c.g) (f := f) p r).mono fun x H1 ⟨W1, d1, M1, ex1, p1, rd1, r1⟩ => by
  split at r1
  · rename_i n
    split at r1
    · rename_i xs hk
      obtain ⟨a, ex, ea, _⟩ := ob_of p1.sr rd1 hk
      subst ex
      obtain ⟨W2, eW, e2, s2, r2⟩ := p1.sr.thaw hk ea
      exact r1 W2 H1 _ e2 s2 r2
    · exact r1.elim
  · exact r1.elim
theorem je_newK : JE X c (.Dict [] [] pos) (fun _ M => rok (.oid M.length) (M ++ [.dk []])) := je_imp pe_dnewK fun W δ M σ H Q p r => fun a ha => by
  obtain ⟨W2, eW, e2, s2⟩ := p.sr.push (o := .dK []) (b := .dk []) ha fun W2 e2 => ⟨[], upd_same, rfl⟩
  refine r W2 _ (.ref a) e2 s2 ⟨a, rfl, ?_⟩
  rw [eW]
  show (W.ad ++ [a])[M.length]? = some a
  rw [← p.sr.len, List.getElem?_append_right (Nat.le_refl _)]
  simp
theorem je_newT : JE X c (.Dict [] [] pos) (fun _ M => rok (.oid M.length) (M ++ [.dt []])) := je_imp pe_dnewT fun W δ M σ H Q p r => fun a ha => by
  obtain ⟨W2, eW, e2, s2⟩ := p.sr.push (o := .dT []) (b := .dt []) ha fun W2 e2 => ⟨[], upd_same, rfl⟩
  refine r W2 _ (.ref a) e2 s2 ⟨a, rfl, ?_⟩
  rw [eW]
  show (W.ad ++ [a])[M.length]? = some a
  rw [← p.sr.len, List.getElem?_append_right (Nat.le_refl _)]
  simp
/-- a displayed dict: its pairs -/
def RPs (g : Gd) (W : Wd) (H : Hp) : List D → List (V × V) → Prop
  | [], ps => ps = []
  | [_], _ => False
  | k :: v :: r, ps => ∃ x y q, ps = (x, y) :: q ∧ Rep g.K W H k x ∧ Rep g.K W H v y ∧ RPs g W H r q
theorem prs_rep {g : Gd} {W : Wd} {H : Hp} : ∀ {ds : List D} {ps : List (V × V)} {kvs : List (Key × D)}, RPs g W H ds ps → prsK ds = some kvs → ∃ kv : List (Key × V), ps = kv.map (fun p => (kV p.1, p.2)) ∧ RepK g.K W H kvs kv
  | [], ps, kvs, h, e => by
    cases e
    exact ⟨[], h, rfl⟩
  | [_], ps, kvs, h, e => h.elim
  | k :: v :: r, ps, kvs, ⟨x, y, q, e1, h1, h2, h3⟩, e => by
    unfold prsK at e
    cases e2 : keyD k with
    | none => rw [e2] at e; cases e
    | some k' =>
      cases e3 : prsK r with
      | none => rw [e2, e3] at e; cases e
      | some r' =>
        rw [e2, e3] at e
        cases e
        obtain ⟨kv, e4, h4⟩ := prs_rep h3 e3
        exact ⟨(k', y) :: kv, by rw [e1, e4, List.map_cons, key_rep h1 e2], ⟨y, kv, rfl, h2, h4⟩⟩
theorem repK_len {g : Gd} {W : Wd} {H : Hp} : ∀ {kvs : List (Key × D)} {kv : List (Key × V)}, RepK g.K W H kvs kv → kv.length = kvs.length
  | [], _, h => by rw [show _ = [] from h]; rfl
  | (k, d) :: r, _, ⟨v, q, e, _, h⟩ => by rw [e, List.length_cons, List.length_cons, repK_len h]
theorem disp_rep {g : Gd} {W : Wd} {H : Hp} : ∀ {kvs : List (Key × D)} {kv : List (Key × V)} {as : List (Key × D)} {av : List (Key × V)}, RepK g.K W H kvs kv → RepK g.K W H as av →
    RepK g.K W H (kvs.foldl (fun a p => storeK a p.1 p.2) as) (mergeK av kv)
  | [], _, as, av, h, ha => by rw [show _ = [] from h]; exact ha
  | (k, d) :: r, _, as, av, ⟨v, q, e, h1, h⟩, ha => by
    subst e
    exact disp_rep (kvs := r) (kv := q) (as := storeK as k d) (av := putK av k v) h (ha.put h1)
/-- the pairs' texts and what is worked out for them -/
inductive DPs (X : Cx) (c : Cf) (pos : Pos) : List (Option Expr) → List Expr → List (Sl → Store → Rs D) → List (TE × TE) → Prop where
  | nil : DPs X c pos [] [] [] []
  | cons {k v : Expr} {ks : List (Option Expr)} {vs : List Expr} {fk fv : Sl → Store → Rs D} {fs : List (Sl → Store → Rs D)} {trs : List (TE × TE)} : JE X c k fk → JE X c v fv → DPs X c pos ks vs fs trs →
      DPs X c pos (some k :: ks) (v :: vs) (fk :: fv :: fs) ((tG c.g c.cx c.Wx (RD c.g) fk, tG c.g c.cx c.Wx (RD c.g) fv) :: trs)
theorem DPs.pps {X : Cx} {c : Cf} {pos : Pos} {ks : List (Option Expr)} {vs : List Expr} {fs : List (Sl → Store → Rs D)} {trs : List (TE × TE)} (h : DPs X c pos ks vs fs trs) : PPs X pos ks vs trs ∧ ks.all (·.isSome) = true ∧ ks.length = vs.length := by
  induction h with
  | nil => exact ⟨pps_nil, rfl, rfl⟩
  | cons hk hv _ ih => exact ⟨pps_cons hk hv ih.1, by rw [List.all_cons, ih.2.1]; rfl, by rw [List.length_cons, List.length_cons, ih.2.2]⟩
def evLD (fs : List (Sl → Store → Rs D)) (δ : Sl) (M : Store) : Rs (List D) := match fs with
  | [] => rok [] M
  | f :: fs => bnd (f δ M) fun d M1 => bnd (evLD fs δ M1) fun ds M2 => rok (d :: ds) M2
theorem bnd_assoc' {α β γ : Type} (r : Rs α) (k : α → Store → Rs β) (l : β → Store → Rs γ) : bnd (bnd r k) l = bnd r fun a M => bnd (k a M) l := by
  cases r with
  | none => rfl
  | some o => cases o <;> rfl
theorem DPs.step {X : Cx} {c : Cf} {pos : Pos} {ks : List (Option Expr)} {vs : List Expr} {fs : List (Sl → Store → Rs D)} {trs : List (TE × TE)} (h : DPs X c pos ks vs fs trs) {α β : Type} {R' : Wd → Hp → α → β → Prop} {Q : β → Hp → Prop} {δ : Sl} {σ : St} {Q' : List (V × V) → Hp → Prop} :
    ∀ {W : Wd} {H : Hp} {M : Store} {k : List D → Store → Rs α}, Pre c.g c.cx W H δ σ M → Res c.g c.Wx R' W H σ Q (bnd (evLD fs δ M) k) →
      (∀ W1 H1 ds M1 ps, Ext c.g.K W H W1 H1 → Pre c.g c.cx W1 H1 δ σ M1 → RPs c.g W1 H1 ds ps → Res c.g c.Wx R' W1 H1 σ Q (k ds M1) → Q' ps H1) → tPairs trs σ H Q' := by
  induction h generalizing Q' with
  | nil => exact fun p r hq => hq _ _ [] _ [] .refl p rfl r
  | @cons _ _ _ _ fk fv fs trs hk hv _ ih =>
    intro W H M k p r hq
    unfold evLD at r
    rw [bnd_assoc'] at r
    refine (Res.step (R := RD c.g) (f := fk) p r).mono fun x H1 ⟨W1, d1, M1, ex1, p1, rd1, r1⟩ => ?_
    unfold evLD at r1
    rw [bnd_assoc', bnd_assoc'] at r1
    refine (Res.step (R := RD c.g) (f := fv) p1 r1).mono fun y H2 ⟨W2, d2, M2, ex2, p2, rd2, r2⟩ => ?_
    rw [bnd_assoc'] at r2
    refine ih p2 (k := fun ds M3 => k (d1 :: d2 :: ds) M3) r2 fun W3 H3 ds M3 ps ex3 p3 rp r3 => ?_
    exact hq W3 H3 (d1 :: d2 :: ds) M3 ((x, y) :: ps) ((ex1.trans ex2).trans ex3) p3 ⟨x, y, ps, rfl, (rd1.up ex2).up ex3, rd2.up ex3, rp⟩ r3
theorem je_disp {keys : List (Option Expr)} {values : List Expr} {fs : List (Sl → Store → Rs D)} {trs : List (TE × TE)} (h : DPs X c pos keys values fs trs) (h0 : keys ≠ []) (h15 : keys.length ≤ 15) :
    JE X c (.Dict keys values pos) (fun δ M => bnd (evLD fs δ (M ++ [.dk []])) fun ds M1 => match M1[M.length]?, prsK ds with
      | some (.dk []), some kvs => if kvs.length ≤ 15 then rok (.oid M.length) (M1.set M.length (.dk (dispK kvs))) else none
      | _, _ => none) := je_imp (pe_disp h.pps.1 h.pps.2.1 h.pps.2.2 h0 h15) fun W δ M σ H Q p r => fun a ha => by
  obtain ⟨W2, eW, e2, s2⟩ := p.sr.push (o := .dK []) (b := .dk []) ha fun W2 e2 => ⟨[], upd_same, rfl⟩
  have hW : W2.ad[M.length]? = some a := by
    rw [eW]
    show (W.ad ++ [a])[M.length]? = some a
    rw [← p.sr.len, List.getElem?_append_right (Nat.le_refl _)]
    simp
  refine h.step (p.up e2 s2) (r.up e2) fun W1 H1 ds M1 ps ex1 p1 rp r1 => ?_
  split at r1
  · rename_i kvs hk hp
    split at r1
    · rename_i hl
      have hW1 := ex1.ad _ _ hW
      obtain ⟨a', ea, ks, ev, rk⟩ := p1.sr.at hk
      rw [hW1] at ea
      cases ea
      have rk : ks = [] := rk
      subst rk
      obtain ⟨kv, e3, r3⟩ := prs_rep rp hp
      obtain ⟨ex, s'⟩ := p1.sr.write (b := .dk (dispK kvs)) (h := .dK (mergeK [] kv)) hk hW1 (by intro z; cases z) fun ex => ⟨_, upd_same, disp_rep (show RepK c.g.K _ _ kvs kv from r3.mono ex.toExt0) rfl⟩
      refine ⟨ev, kv, e3, by rw [repK_len r3]; exact hl, ?_⟩
      exact r1 W1 _ (.ref a) ex s' ⟨a, rfl, hW1⟩
    · exact r1.elim
  · exact r1.elim
end
section
variable {prog : Program} {w : World} {A : Around} {E : Value → Shared → Prop} {s : Shared}
theorem call_list_rev {it l : Addr} {items : Array Value} {Q : Value → Shared → Prop} (hh : A.handled = none) (hit : s.heap.IsRevIter it l ((items.size : Int) - 1)) (hl : s.heap.IsList l items) (hne : l ≠ it) (hn : items.size ≤ sizeLine)
    (hQ : ∀ (h' : Heap) (tk : Nat) (acc : Array Value) (c' : Nat), (∀ b o, b ≠ it → s.heap.get? b = some o → h'.get? b = some o) → h'.get? s.heap.objs.size = some { cls := .type "list", dict := none, data := .seq acc c', slots := #[] } → ItemsOf (fun i v => items[items.size - 1 - i]? = some v) acc items.size →
      Q (.ref s.heap.objs.size) { s with heap := h', toks := tk }) :
    wpAny (model prog w) A (call (.type "list") [.ref it]) Q E s := by
  refine callType_codes (Q₁ := fun obj s₁ => obj = .ref s.heap.objs.size ∧ s₁ = { s with heap := s.heap.push { cls := .type "list", data := .seq #[] } }) PySem.F.called_list (PySem.F.typeCall_list_1 _) PySem.F.entry_list_init
    (code_list_new _ ⟨rfl, rfl⟩) fun obj s₁ h₁ => ?_
  obtain ⟨rfl, rfl⟩ := h₁
  obtain ⟨oi, hoi, _⟩ := id hit
  obtain ⟨ol, hol, _⟩ := id hl
  have hSi : s.heap.objs.size ≠ it := Nat.ne_of_gt (Heap.lt_size hoi)
  have hSl : s.heap.objs.size ≠ l := Nat.ne_of_gt (Heap.lt_size hol)
  have hSf : s.heap.objs.size ∉ [it, l] := by simp only [List.mem_cons, List.not_mem_nil, or_false, not_or]; exact ⟨hSi, hSl⟩
  have hS : (s.heap.push { cls := .type "list", data := .seq #[] }).get? s.heap.objs.size = some { cls := .type "list", data := .seq #[] } := Heap.get?_push_size _ rfl
  refine ⟨⟨_, hS, rfl⟩, PySem.F.args_list_init_2 _ _, ?_⟩
  show wpAny _ _ (do let old ← Builtin.List.listItems (.ref s.heap.objs.size); Builtin.List.listUpdate (.ref s.heap.objs.size) (fun _ => #[]); letGo old.toList.reverse; Builtin.List.listExtendWith (.ref s.heap.objs.size) (.ref it) .none) _ _ _
  refine wpAny_bind ?_
  unfold Builtin.List.listItems
  refine wpAny_bind (wpAny_seqItems hS rfl (wpAny_pure ?_))
  show wpAny _ _ (updateSeq s.heap.objs.size (fun _ => #[]) >>= fun _ => letGo (#[] : Array Value).toList.reverse >>= fun _ => Builtin.List.listExtendWith (.ref s.heap.objs.size) (.ref it) .none) _ _ _
  refine wpAny_bind (wpAny_updateSeq hS rfl ?_)
  have hS₂ := Heap.get?_update_self (Obj.mapSeq (fun _ => (#[] : Array Value))) hS rfl
  have oth : ∀ b o, b ≠ s.heap.objs.size → s.heap.get? b = some o → ((s.heap.push { cls := .type "list", data := .seq #[] }).update s.heap.objs.size (Obj.mapSeq (fun _ => (#[] : Array Value)))).get? b = some o :=
    fun b o hb e => (Heap.get?_update_other _ _ (Ne.symm hb)).trans (Heap.get?_push_of_some _ e)
  refine wpAny_bind (wpAny_letGo ?_)
  generalize hH : (s.heap.push { cls := .type "list", data := .seq #[] }).update s.heap.objs.size (Obj.mapSeq (fun _ => (#[] : Array Value))) = Hh at *
  have W := (Walks.listRev (prog := prog) (w := w) (A := A.in1.in1) hh it l hne items).toS
  have hit1 : Hh.IsRevIter it l ((items.size : Int) - 1) := hit.at fun o e => oth it o (Ne.symm hSi) e
  have hl1 : Hh.IsList l items := hl.at fun o e => oth l o (Ne.symm hSl) e
  have hT : ({ s with heap := Hh } : Shared).TypeIs (.ref it) "list_reverseiterator" := Heap.IsRevIter.typeIs (s := { s with heap := Hh }) hit1
  have h1 : Builtin.List.listSameRef (.ref s.heap.objs.size) (.ref it) = false := by simp [Builtin.List.listSameRef, hSi]
  unfold Builtin.List.listExtendWith
  refine wpAny_bind (wpAny_typeOf hT ?_)
  rw [if_neg (by rw [h1]; decide)]
  refine wpAny_bind (wpAny_pyIter_revIter (s := { s with heap := Hh }) hit1 ?_)
  refine wpAny_bind (wpAny_holding ?_)
  unfold Builtin.List.listLengthHint
  refine wpAny_bind (wpAny_specialOf hT RT.nolen_lri ?_)
  show wpAny _ A.in1.in1 (specialOf (Value.ref it) (Str.ofString "__length_hint__") >>= _) _ _ _
  refine wpAny_bind (wpAny_specialOf hT RT.hint_lri ?_)
  generalize hid : ("list_reverseiterator.__length_hint__" : String) = id0
  wp_delta
  rw [show splitId id0 = some ("list_reverseiterator", "__length_hint__") from by subst hid; decide +kernel]
  subst hid
  refine wpAny_bind (wpAny_isInstance (b := true) hT (by rw [isSubtype_type]; kernel_rfl) ?_)
  refine wpAny_pure ?_
  rw [if_neg (by decide)]
  have e0 : ((items.size : Nat) : Int) - 1 - ((0 : Nat) : Int) = (items.size : Int) - 1 := by omega
  refine wpAny_pure ⟨plainId_quiet F.plain_extend_loop _, codeAny_extend_loopS W hn _ hSf _ items.size 0 _ _ _ rfl (Nat.zero_le _) ⟨Nat.zero_le _, by rw [e0]; exact hit1, hl1⟩ hS₂ (ItemsOf.nil _) fun s' acc' c' hm hS' hacc => ?_⟩
  rw [Moved.eq_with hm]
  refine ⟨rfl, hQ s'.heap s'.toks acc' c' (fun b o hb e => hm.heap b o (fun hmem => ?_) (oth b o (Nat.ne_of_lt (Heap.lt_size e)) e)) hS' hacc⟩
  rcases List.mem_cons.mp hmem with e' | hmem
  · exact absurd (Heap.lt_size e) (by rw [e']; exact Nat.lt_irrefl _)
  · exact hb (List.mem_singleton.mp hmem)
end

/-- list(reversed(x)), x a list: a new list -/
def tListRev (K : PySem.W.Frag) (te : TE) : TE := fun σ H Q => te σ H fun v H1 => ∃ (a : Addr) (xs : List V), v = .ref a ∧ SqL K H1 a xs ∧ ∀ q, H1 q = none → Q (.ref q) (upd H1 q (.lst xs.reverse))
theorem pe_listRev {X : Cx} {e : Expr} {te : TE} {p p2 pos pos2 : Pos} (hc : X.calm = true) (hg : Gl X "list") (hm : X.mg "list" = none) (hg2 : Gl X "reversed") (hm2 : X.mg "reversed" = none) (he : PE X e te)
    (hs : starEach [e] X.env = (false, eval e X.env) :: starEach [] X.env)
    (hs2 : starEach [.Call (.Name "reversed" p2) [e] [] pos2] X.env = (false, eval (.Call (.Name "reversed" p2) [e] [] pos2) X.env) :: starEach [] X.env := by rfl) :
    PE X (.Call (.Name "list" p) [.Call (.Name "reversed" p2) [e] [] pos2] [] pos) (tListRev X.K te) := by
  refine ⟨fun pins s σ H Q I h => ?_⟩
  refine Call_ (ld_blt I hg hm boot_list (PyProof.Rows.callWith_type1 (args_cons (Call_ (ld_blt I hg2 hm2 PyProof.Rows.boot_reversed (PyProof.Rows.callWith_type1 (args_cons (thn (he.run pins s σ H _ I h) fun u s1 ⟨v, H1, I1, r1, q1⟩ => args_nil ?_) hs) hs rfl))) hs2) hs2 rfl))
  obtain ⟨a, xs, ev, hq, q⟩ := q1
  subst ev
  obtain rfl : u = Value.ref a := r1
  obtain ⟨its, rv, p', hz⟩ := I1.list hq
  refine call_reversed_list p'.isList (args_nil ?_)
  have k0 : ∀ b o, s1.heap.get? b = some o → (s1.heap.push (revObj a ((its.toArray.size : Int) - 1))).get? b = some o := fun b o e => Heap.get?_push_of_some _ e
  have I2 : Inv X pins σ H1 { s1 with heap := s1.heap.push (revObj a ((its.toArray.size : Int) - 1)) } := I1.kept (t' := s1.toks) k0
  obtain ⟨f0, f1, f2, f3, f4, f5⟩ := I1.fpOk (H' := H1) (b := s1.heap.objs.size) (Nat.le_refl _) (I1.hok.fresh (Nat.le_refl _))
  have hl := p'.isList
  obtain ⟨ol, hol, _⟩ := id hl
  have hne : a ≠ s1.heap.objs.size := Nat.ne_of_lt (Heap.lt_size hol)
  have hn : its.toArray.size ≤ sizeLine := by rw [List.size_toArray, ← rv.length]; exact hz
  refine call_list_rev (s := { s1 with heap := s1.heap.push (revObj a ((its.toArray.size : Int) - 1)) }) (I1.ok.hd hc) ⟨_, Heap.get?_push_size _ rfl, rfl, rfl⟩ (hl.push _) hne hn fun h' tk acc c' hk hS hi => ?_
  obtain ⟨G, g1, g2⟩ := restrict h' fun b => decide (b ≠ (s1.heap.push (revObj a ((its.toArray.size : Int) - 1))).objs.size)
  have gS : G.get? (s1.heap.push (revObj a ((its.toArray.size : Int) - 1))).objs.size = none := g2 _ (by simp)
  have gk : ∀ b, b ≠ (s1.heap.push (revObj a ((its.toArray.size : Int) - 1))).objs.size → G.get? b = h'.get? b := fun b hb => g1 b (decide_eq_true hb)
  have I3 : Inv X pins σ H1 { s1 with heap := G, toks := tk } := I2.turned (t' := tk) (fun b o hb e => (gk b (Nat.ne_of_lt (Heap.lt_size e))).trans (hk b o hb e)) f0 f1 f3 f4 f5
  have hnone := I2.hok.fresh (Nat.le_refl _)
  refine ⟨.ref _, upd H1 _ (.lst xs.reverse), I3.laidN (t' := tk) (h' := h') (fun c o e => ?_) gS hnone (show ObjOk X.prog X.w _ _ _ (.lst xs.reverse) from ⟨by rw [List.length_reverse]; exact hz, acc.toList, c', RT.vals_rev rv hi, by rw [Array.toArray_toList]; exact hS⟩), rfl, q _ hnone⟩
  rw [← gk c (fun z => by rw [z, gS] at e; cases e)]; exact e
section
variable {X : Cx} {c : Cf} {e : Expr} {f : Sl → Store → Rs D} {p p2 pos pos2 : Pos} {m : Bool}
theorem je_lrev (hK : c.g.K = X.K) (hc : X.calm = true) (hg : Gl X "list") (hm : X.mg "list" = none) (hg2 : Gl X "reversed") (hm2 : X.mg "reversed" = none) (h1 : JE X c e f) (hs : starEach [e] X.env = (false, eval e X.env) :: starEach [] X.env) :
    JE X c (.Call (.Name "list" p) [.Call (.Name "reversed" p2) [e] [] pos2] [] pos) (fun δ M => bnd (f δ M) fun d1 M1 => po m M1 (pLrev [d1] M1)) := je_imp (pe_listRev hc hg hm hg2 hm2 h1 hs) fun W δ M σ H Q q r =>
  (Res.step (R := RD c.g) (f := f) q r).mono fun x H1 ⟨W1, d1, M1, ex1, p1, rd1, r1⟩ => by
    have r1 := po_pres p1.sr r1
    have r1 : PRes c.g W1 H1 Q ((viewL M1 d1).map fun xs => .nl xs.reverse) := r1
    cases q : viewL M1 d1 with
    | none => rw [q] at r1; exact r1.elim
    | some xs =>
      rw [q] at r1
      obtain ⟨a, vs, rfl, t1, q1⟩ := sq_of p1.sr rd1 q
      exact ⟨a, vs, rfl, hK ▸ t1, fun l hl => r1 l _ hl q1.reverse⟩
end
end Mo
namespace Mo
open PySem PySem.Spec L2
open PyProof.Rows hiding St
/-! ### a table of the module: a dict with text keys, written once -/
inductive EsOk (K : PySem.W.Frag) : List DictEntry → List (PySem.Str × D) → Prop
  | nil : EsOk K [] []
  | cons {e : DictEntry} {es : List DictEntry} {k : PySem.Str} {d : D} {kvs : List (PySem.Str × D)} {t : Tok} {v : V} (hk : e.key = .str k t) (hv : RelV v e.val) (hr : ∀ W H, Rep K W H d v) (r : EsOk K es kvs) : EsOk K (e :: es) ((k, d) :: kvs)
structure TbKn (K : PySem.W.Frag) (w : World) (mg : PySem.Str → Option Value) (x : PySem.Str) (kvs : List (PySem.Str × D)) : Prop where
  ex : ∃ (a : Addr) (es : Array DictEntry) (n : Nat), mg x = some (.ref a) ∧ KDict K w a es n ∧ EsOk K es.toList kvs
/-- what the table's entries tell at a key -/
inductive TbAt (K : PySem.W.Frag) : Option D → Option Value → Prop
  | none : TbAt K none none
  | some {d : D} {u : Value} {v : V} (hv : RelV v u) (hr : ∀ W H, Rep K W H d v) : TbAt K (some d) (some u)
theorem EsOk.at {K : PySem.W.Frag} {es : List DictEntry} {kvs : List (PySem.Str × D)} (h : EsOk K es kvs) (z : PySem.Str) : TbAt K (lookT kvs z) ((es.find? fun e => Value.isStrOf z e.key).map (·.val)) := by
  induction h with
  | nil => exact .none
  | @cons e es k d kvs t v hk hv hr r ih =>
    unfold lookT
    rw [List.find?_cons, List.find?_cons]
    have e1 : Value.isStrOf z e.key = (k == z) := by rw [hk]; rfl
    rw [e1]
    cases c : (k == z) with
    | true => exact .some hv hr
    | false => exact ih
theorem tb_find {K : PySem.W.Frag} {es : Array DictEntry} {kvs : List (PySem.Str × D)} (h : EsOk K es.toList kvs) (z : PySem.Str) : TbAt K (lookT kvs z) (findBy Value.isStrOf es z) := by
  have := h.at z
  unfold findBy
  rwa [← Array.find?_toList]
theorem TbAt.isSome {K : PySem.W.Frag} {o : Option D} {u : Option Value} (h : TbAt K o u) : u.isSome = o.isSome := by cases h <;> rfl
theorem TbAt.getD {K : PySem.W.Frag} {o : Option D} {u : Option Value} (h : TbAt K o u) {d : D} {v : V} {r : Value} {W : Wd} {H : Hp} (hv : RelV v r) (hr : Rep K W H d v) : ∃ y, RelV y (u.getD r) ∧ Rep K W H (o.getD d) y := by
  cases h with
  | none => exact ⟨v, hv, hr⟩
  | some a b => exact ⟨_, a, b W H⟩
theorem keyT_ok {K : PySem.W.Frag} {W : Wd} {H : Hp} {d : D} {x : V} {z : PySem.Str} (h : keyT d = some z) (r : Rep K W H d x) : x = .str z := by
  cases d <;> cases h <;> cases r <;> rfl
section
variable {X : Cx} {c : Cf} {e1 e2 : Expr} {f1 f2 : Sl → Store → Rs D} {kvs : List (PySem.Str × D)} {x : PySem.Str} {p pos apos cpos : Pos}
theorem jc_has (hg : Gl X x) (hd : (x == ("__debug__" : PySem.Str)) = false) (T : TbKn X.K X.w X.mg x kvs) (h1 : JE X c e1 f1) : JC X c .In e1 (.Name x p) (fun δ M => bnd (f1 δ M) fun k M1 => tabR .has kvs k .non M1) := by
  obtain ⟨a, es, n, g1, D, E⟩ := T.ex
  have h2 : PE X (.Name x p) (tC (.ref a)) := pe_glob hg g1 rfl hd
  refine ⟨fun pins s σ H Q I ⟨W, δ, M, q, r1⟩ => binT h1 h2 I (R := fun x y H2 => ∃ z : PySem.Str, x = .str z ∧ y = .ref a ∧ Q (.bl (lookT kvs z).isSome) H2) ?_ fun v u s2 x y H2 I2 rx ry ⟨z, ex, ey, hq⟩ => ?_⟩
  · refine (Res.step (R := RD c.g) (f := f1) q r1).mono fun x H1 ⟨W1, d1, M1, ex1, p1, rd1, r1⟩ => ?_
    unfold tabR at r1
    split at r1
    · rename_i z hz
      exact ⟨z, keyT_ok hz rd1, rfl, r1.done p1.sr rfl⟩
    · exact r1.elim
  · subst ex ey
    obtain ⟨t, rfl⟩ := rx
    cases ry
    refine wpAny_in_of (PySem.strKind_is X.prog X.w z t) D.low (PySem.W.mapOf_K (prog := X.prog) I2.kIn D.at_ D.lit) ?_
    rw [(tb_find E z).isSome]
    exact ⟨.bl _, H2, I2.tok _, rfl, hq⟩
theorem jc_hasnt (hg : Gl X x) (hd : (x == ("__debug__" : PySem.Str)) = false) (T : TbKn X.K X.w X.mg x kvs) (h1 : JE X c e1 f1) : JC X c .NotIn e1 (.Name x p) (fun δ M => bnd (f1 δ M) fun k M1 => tabR .hasnt kvs k .non M1) := by
  obtain ⟨a, es, n, g1, D, E⟩ := T.ex
  have h2 : PE X (.Name x p) (tC (.ref a)) := pe_glob hg g1 rfl hd
  refine ⟨fun pins s σ H Q I ⟨W, δ, M, q, r1⟩ => binT h1 h2 I (R := fun x y H2 => ∃ z : PySem.Str, x = .str z ∧ y = .ref a ∧ Q (.bl (!(lookT kvs z).isSome)) H2) ?_ fun v u s2 x y H2 I2 rx ry ⟨z, ex, ey, hq⟩ => ?_⟩
  · refine (Res.step (R := RD c.g) (f := f1) q r1).mono fun x H1 ⟨W1, d1, M1, ex1, p1, rd1, r1⟩ => ?_
    unfold tabR at r1
    split at r1
    · rename_i z hz
      exact ⟨z, keyT_ok hz rd1, rfl, r1.done p1.sr rfl⟩
    · exact r1.elim
  · subst ex ey
    obtain ⟨t, rfl⟩ := rx
    cases ry
    refine wpAny_notIn_of (PySem.strKind_is X.prog X.w z t) D.low (PySem.W.mapOf_K (prog := X.prog) I2.kIn D.at_ D.lit) ?_
    rw [(tb_find E z).isSome]
    exact ⟨.bl _, H2, I2.tok _, rfl, hq⟩
theorem je_titem (hg : Gl X x) (hd : (x == ("__debug__" : PySem.Str)) = false) (hK : c.g.K = X.K) (T : TbKn X.K X.w X.mg x kvs) (hs : NoSl e1) (h1 : JE X c e1 f1) : JE X c (.Subscript (.Name x p) e1 pos) (fun δ M => bnd (f1 δ M) fun k M1 => tabR .item kvs k .non M1) := by
  obtain ⟨a, es, n, g1, D, E0⟩ := T.ex
  have E : EsOk c.g.K es.toList kvs := hK.symm ▸ E0
  have h2 : PE X (.Name x p) (tC (.ref a)) := pe_glob hg g1 rfl hd
  refine ⟨fun pins s σ H Q I ⟨W, δ, M, q, r1⟩ => ?_⟩
  refine subD_of PySem.F.slot_dict_getitem.lookup hs (thn (h2.run pins s σ H (fun y H1 => y = .ref a ∧ H1 = H) I ⟨rfl, rfl⟩) fun u s1 ⟨y, H1, I1, ry, ey, eH⟩ => ?_)
  subst ey eH
  obtain rfl : u = Value.ref a := ry
  refine thn (h1.run pins s1 σ H1 (fun y H2 => ∃ (z : PySem.Str) (v : V) (w : Value), y = .str z ∧ findBy Value.isStrOf es z = some w ∧ RelV v w ∧ Q v H2) I1 ((Res.step (R := RD c.g) (f := f1) q r1).mono fun x H1 ⟨W1, d1, M1, ex1, p1, rd1, r1⟩ => ?_)) fun iv s2 ⟨y, H2, I2, ry, z, v, w, ey, hf, rv, hq⟩ => ?_
  · unfold tabR at r1
    split at r1
    · rename_i z hz
      have ft := tb_find E z
      dsimp only at r1
      split at r1
      · rename_i d hd2
        rw [hd2] at ft
        cases hu : findBy Value.isStrOf es z with
        | none => rw [hu] at ft; cases ft
        | some w =>
          rw [hu] at ft
          cases ft with
          | some rv rr => exact ⟨z, _, w, keyT_ok hz rd1, hu, rv, r1.done p1.sr (rr _ _)⟩
      · exact r1.elim
    · exact r1.elim
  · subst ey
    obtain ⟨t, rfl⟩ := ry
    have hm := PySem.W.mapOf_K (prog := X.prog) (w := X.w) I2.kIn D.at_ D.lit
    exact ⟨hm.typeIs, wpAny_getItem_of (strKind_is X.prog X.w z t) hm hf ⟨v, H2, I2.tok _, rv, hq⟩⟩
theorem je_tget1 (hg : Gl X x) (hd : (x == ("__debug__" : PySem.Str)) = false) (hK : c.g.K = X.K) (T : TbKn X.K X.w X.mg x kvs) (h1 : JE X c e1 f1) (m : M1 X (.Name x p) "get" apos e1 cpos) : JE X c (.Call (.Attribute (.Name x p) "get" apos) [e1] [] cpos) (fun δ M => bnd (f1 δ M) fun k M1 => tabR .get1 kvs k .non M1) := by
  obtain ⟨a, es, n, g1, D, E0⟩ := T.ex
  have E : EsOk c.g.K es.toList kvs := hK.symm ▸ E0
  have h2 : PE X (.Name x p) (tC (.ref a)) := pe_glob hg g1 rfl hd
  refine ⟨fun pins s σ H Q I ⟨W, δ, M, q, r1⟩ => ?_⟩
  refine wpAny_Call_method m.base m.few m.line PySem.F.plainAttrs_dict PySem.F.slot_dict_get PySem.F.type_dict_get (thn (h2.run pins s σ H (fun y H1 => y = .ref a ∧ H1 = H) I ⟨rfl, rfl⟩) fun u s1 ⟨y, H1, I1, ry, ey, eH⟩ => ?_)
  subst ey eH
  obtain rfl : u = Value.ref a := ry
  have hm1 := PySem.W.mapOf_K (prog := X.prog) (w := X.w) I1.kIn D.at_ D.lit
  refine ⟨hm1.typeIs, fun b q => by cases q; exact ⟨_, I1.kIn _ _ D.at_, rfl⟩, ?_⟩
  rw [m.trees]
  refine Calls.callWith_builtin rfl (Calls.evalArgs_plain (Calls.spliced_cons (thn (h1.run pins s1 σ H1 (fun y H2 => ∃ (z : PySem.Str) (v : V), y = .str z ∧ RelV v ((findBy Value.isStrOf es z).getD .none) ∧ Q v H2) I1 ((Res.step (R := RD c.g) (f := f1) q r1).mono fun x H1 ⟨W1, d1, M1, ex1, p1, rd1, r1⟩ => ?_)) fun iv s2 ⟨y, H2, I2, ry, z, v, ey, rv, hq⟩ => Calls.spliced_nil ?_)))
  · unfold tabR at r1
    split at r1
    · rename_i z hz
      obtain ⟨v, h3, h4⟩ := (tb_find E z).getD (W := W1) (H := H1) (d := .non) (v := .non) (r := .none) rfl rfl
      exact ⟨z, v, keyT_ok hz rd1, h3, r1.done p1.sr h4⟩
    · exact r1.elim
  · subst ey
    obtain ⟨t, rfl⟩ := ry
    have hm := PySem.W.mapOf_K (prog := X.prog) (w := X.w) I2.kIn D.at_ D.lit
    exact call_meetsIn PySem.F.slot_dict_get hm.typeIs PySem.F.entry_dict_get (PySem.F.args_dict_get_2 _ _) (meets_dict_get (strKind X.prog X.w) a (strKind_is X.prog X.w z t) D.low) ⟨_, hm, v, H2, I2.tok _, rv, hq⟩
theorem je_tget2 (hg : Gl X x) (hd : (x == ("__debug__" : PySem.Str)) = false) (hK : c.g.K = X.K) (T : TbKn X.K X.w X.mg x kvs) (h1 : JE X c e1 f1) (h3 : JE X c e2 f2) (m : M2 X (.Name x p) "get" apos e1 e2 cpos) : JE X c (.Call (.Attribute (.Name x p) "get" apos) [e1, e2] [] cpos) (fun δ M => bnd (f1 δ M) fun k M1 => bnd (f2 δ M1) fun y M2 => tabR .get2 kvs k y M2) := by
  obtain ⟨a, es, n, g1, D, E0⟩ := T.ex
  have E : EsOk c.g.K es.toList kvs := hK.symm ▸ E0
  have h2 : PE X (.Name x p) (tC (.ref a)) := pe_glob hg g1 rfl hd
  refine ⟨fun pins s σ H Q I ⟨W, δ, M, q, r1⟩ => ?_⟩
  refine wpAny_Call_method m.base m.few m.line PySem.F.plainAttrs_dict PySem.F.slot_dict_get PySem.F.type_dict_get (thn (h2.run pins s σ H (fun y H1 => y = .ref a ∧ H1 = H) I ⟨rfl, rfl⟩) fun u s1 ⟨y, H1, I1, ry, ey, eH⟩ => ?_)
  subst ey eH
  obtain rfl : u = Value.ref a := ry
  have hm1 := PySem.W.mapOf_K (prog := X.prog) (w := X.w) I1.kIn D.at_ D.lit
  refine ⟨hm1.typeIs, fun b q => by cases q; exact ⟨_, I1.kIn _ _ D.at_, rfl⟩, ?_⟩
  rw [m.trees]
  refine Calls.callWith_builtin rfl (Calls.evalArgs_plain (Calls.spliced_cons (thn (h1.run pins s1 σ H1 (fun y H2 => tG c.g c.cx c.Wx (RD c.g) f2 σ H2 fun yv H3 => ∃ z : PySem.Str, y = .str z ∧ ∀ r, RelV yv r → ∃ v, RelV v ((findBy Value.isStrOf es z).getD r) ∧ Q v H3) I1 ((Res.step (R := RD c.g) (f := f1) q r1).mono fun x H1 ⟨W1, d1, M1, ex1, p1, rd1, r1⟩ => ?_)) fun iv s2 ⟨y, H2, I2, ry, q2⟩ =>
    Calls.spliced_cons (thn (h3.run pins s2 σ H2 _ I2 q2) fun fv s3 ⟨yv, H3, I3, rz, z, ey, hq⟩ => Calls.spliced_nil ?_))))
  · refine (Res.step (R := RD c.g) (f := f2) p1 r1).mono fun y H2 ⟨W2, d2, M2, ex2, p2, rd2, r2⟩ => ?_
    unfold tabR at r2
    split at r2
    · rename_i z hz
      refine ⟨z, keyT_ok hz rd1, fun r rr => ?_⟩
      obtain ⟨v, h4, h5⟩ := (tb_find E z).getD rr rd2
      exact ⟨v, h4, r2.done p2.sr h5⟩
    · exact r2.elim
  · subst ey
    obtain ⟨t, rfl⟩ := ry
    obtain ⟨v, rv, hq⟩ := hq fv rz
    have hm := PySem.W.mapOf_K (prog := X.prog) (w := X.w) I3.kIn D.at_ D.lit
    exact call_meetsIn PySem.F.slot_dict_get hm.typeIs PySem.F.entry_dict_get (PySem.F.args_dict_get_3 _ _ _) (meets_dict_get_default (strKind X.prog X.w) a (strKind_is X.prog X.w z t) D.low fv) ⟨_, hm, v, H3, I3.tok _, rv, hq⟩
end
/-! ### a walk over a table's keys -/
theorem EsOk.len {K : PySem.W.Frag} {es : List DictEntry} {kvs : List (PySem.Str × D)} (h : EsOk K es kvs) : es.length = kvs.length := by
  induction h with
  | nil => rfl
  | cons _ _ _ _ ih => rw [List.length_cons, List.length_cons, ih]
theorem EsOk.get {K : PySem.W.Frag} {es : List DictEntry} {kvs : List (PySem.Str × D)} (h : EsOk K es kvs) : ∀ (i : Nat) (k : PySem.Str), (kvs.map (·.1))[i]? = some k → ∃ en t, es[i]? = some en ∧ en.key = .str k t := by
  induction h with
  | nil => intro i k e; cases e
  | @cons e es k d kvs t v hk hv hr r ih =>
    intro i k2 e2
    cases i with
    | zero => cases e2; exact ⟨_, t, rfl, hk⟩
    | succ i => exact ih i k2 e2
def Itkk (ks : List PySem.Str) : It :=
  ⟨fun i _ => i < ks.length, fun i H x H' => H' = H ∧ ∃ k, ks[i]? = some k ∧ x = .str k, fun i _ => ks.length ≤ i⟩
theorem turn_keysK {P : Program} {w : World} {K : PySem.W.Frag} {tg : Expr} {d : Addr} {es : Array DictEntry} {n : Nat} {kvs : List (PySem.Str × D)} (D : KDict K w d es n) (E : EsOk K es.toList kvs) (it : Addr) :
    Turn P w K tg (Itkk (kvs.map (·.1))) [it] it (fun i h => h.IsKeyIter it d i es.size n) where
  mem := by simp
  obj := fun i h st b hb => by
    have e : b = it := by simpa using hb
    subst e
    obtain ⟨oi, e, c, dd⟩ := st
    exact ⟨oi, e, fun v z => by rw [dd] at z; cases z⟩
  keep := fun i h h' st k => st.at fun oi e => k it (by simp) oi e
  item := by
    intro X hP hw hK hc i pins s σ H E' I hf st hg
    subst hP hw hK
    have hi : i < (kvs.map (·.1)).length := hg
    obtain ⟨f0, f1, f2, f3, f4, f5⟩ := hf it (by simp)
    obtain ⟨k, hk⟩ : ∃ k, (kvs.map (·.1))[i]? = some k := ⟨_, List.getElem?_eq_getElem hi⟩
    obtain ⟨en, t, hen, hkey⟩ := E.get i k hk
    rw [Array.getElem?_toList] at hen
    refine next_key_item st (I.kIn _ _ D.at_) rfl rfl hen fun h' st' sb => ?_
    have I1 : Inv X pins σ H { s with heap := h' } := I.turned (t' := s.toks) (fun b ob hb e => (sb.2 b hb).trans e) f0 f1 f3 f4 f5
    obtain ⟨oi, e, c, dd⟩ := id st'
    exact ⟨en.key, rfl, go_of (s := { s with heap := h' }) e c dd (by decide) ⟨.str k, H, I1, ⟨t, hkey⟩, ⟨rfl, k, hk, rfl⟩, st', fun b hb => (hf b hb).1⟩⟩
  done := by
    intro X hP hw hK hc i pins s σ H E' I hf st hg
    subst hP hw hK
    have hi : (kvs.map (·.1)).length ≤ i := hg
    obtain ⟨f0, f1, f2, f3, f4, f5⟩ := hf it (by simp)
    have hl : es.size = kvs.length := by rw [← E.len, Array.length_toList]
    rw [List.length_map] at hi
    exact next_key_end (I.ok.hd hc) st (I.kIn _ _ D.at_) rfl rfl (by omega) fun h' eb => ⟨rfl, I.turned (t' := s.toks) (fun b ob hb e => eb b ob hb e) f0 f1 f3 f4 f5⟩
  self := fun A i s Q E st h => by
    refine wpAny_pyIter_slot st.typeIs F.slot_dict_keyiterator_iter (wpAny_call_entry F.slot_dict_keyiterator_iter st.typeIs F.entry_dict_keyiterator_iter ?_ (F.args_dict_keyiterator_iter_1 _))
    show wpAny _ _ (ret (.ref it)) _ _ s
    exact wpAny_pure ⟨_, rfl, "dict_keyiterator", _, st.typeIs, F.slot_dict_keyiterator_next.lookup, h⟩
def iKeysK (ks : List PySem.Str) : TI := fun σ H R => R (Itkk ks) H
section
variable {X : Cx} {c : Cf} {kvs : List (PySem.Str × D)} {x : PySem.Str} {p : Pos} {tg : Expr}
theorem pi_keysK (hg : Gl X x) (hd : (x == ("__debug__" : PySem.Str)) = false) (T : TbKn X.K X.w X.mg x kvs) : PI X tg (.Name x p) (iKeysK (kvs.map (·.1))) := by
  obtain ⟨a, es, n, g1, D, E⟩ := T.ex
  have h2 : PE X (.Name x p) (tC (.ref a)) := pe_glob hg g1 rfl hd
  refine ⟨fun pins s σ H R I h => ?_⟩
  refine thn (h2.run pins s σ H (fun y H1 => y = .ref a ∧ H1 = H) I ⟨rfl, rfl⟩) fun u s1 ⟨y, H1, I1, ry, ey, eH⟩ => ?_
  subst ey eH
  obtain rfl : u = Value.ref a := ry
  refine iter_keys D.low (I1.kIn _ _ D.at_) ⟨rfl, rfl, rfl⟩ rfl (pi_one (tk := s1.toks) I1 _ (turn_keysK D E _) ⟨_, Heap.get?_push_size _ rfl, rfl, rfl⟩ h)
theorem ji_keysK (hg : Gl X x) (hd : (x == ("__debug__" : PySem.Str)) = false) (T : TbKn X.K X.w X.mg x kvs) : JI X c tg (.Name x p) (fun δ M => itemsR (.keys x (kvs.map (·.1))) [] M) :=
  ji_imp (pi_keysK hg hd T) fun W δ M σ H R q r => by
    obtain ⟨it, hit, hR⟩ := itemsR_done q.sr r
    cases hit
    refine hR _ ⟨fun i W' H' M' hi e s q => ?_, fun i d W' H' M' v H'' hd e s q y => ?_, fun W' H' M' e s q => ?_⟩
    · show i < (kvs.map (·.1)).length
      simpa using hi
    · obtain ⟨e1, k, hk, e2⟩ := y
      subst e1; subst e2
      have hd : ((kvs.map (·.1)).map D.str)[i]? = some d := hd
      rw [List.getElem?_map, hk] at hd
      cases hd
      exact ⟨W', .refl, s, rfl⟩
    · show (kvs.map (·.1)).length ≤ _
      simp
end
end Mo
/-! Mo11: the check of a text against the language: what is looked at. -/
namespace Mo
open PySem PySem.Spec L2
open PyProof.Rows hiding St

mutual
def D.beq : D → D → Bool
  | .non, .non => true
  | .bl a, .bl b => a == b
  | .int a, .int b => a == b
  | .str a, .str b => a == b
  | .tup a, .tup b => Ds.beq a b
  | .lst a, .lst b => Ds.beq a b
  | .scr a, .scr b => Ds.beq a b
  | .ktup a, .ktup b => Ds.beq a b
  | .oid a, .oid b => a == b
  | .exr, .exr => true
  | .sy a, .sy b => a == b
  | _, _ => false
def Ds.beq : List D → List D → Bool
  | [], [] => true
  | a :: as, b :: bs => D.beq a b && Ds.beq as bs
  | _, _ => false
end
mutual
theorem D.beq_eq : ∀ (a b : D), D.beq a b = true → a = b
  | .non, b, h => by cases b <;> first | rfl | cases h
  | .bl _, b, h => by cases b <;> first | (rename_i x y; exact congrArg _ (beq_iff_eq.mp h)) | cases h
  | .int _, b, h => by cases b <;> first | (rename_i x y; exact congrArg _ (beq_iff_eq.mp h)) | cases h
  | .str _, b, h => by cases b <;> first | (rename_i x y; exact congrArg _ (beq_iff_eq.mp h)) | cases h
  | .oid _, b, h => by cases b <;> first | (rename_i x y; exact congrArg _ (beq_iff_eq.mp h)) | cases h
  | .sy _, b, h => by cases b <;> first | (rename_i x y; exact congrArg _ (beq_iff_eq.mp h)) | cases h
  | .exr, b, h => by cases b <;> first | rfl | cases h
  | .tup as, b, h => by cases b <;> first | (exact congrArg _ (Ds.beq_eq as _ h)) | cases h
  | .lst as, b, h => by cases b <;> first | (exact congrArg _ (Ds.beq_eq as _ h)) | cases h
  | .scr as, b, h => by cases b <;> first | (exact congrArg _ (Ds.beq_eq as _ h)) | cases h
  | .ktup as, b, h => by cases b <;> first | (exact congrArg _ (Ds.beq_eq as _ h)) | cases h
theorem Ds.beq_eq : ∀ (a b : List D), Ds.beq a b = true → a = b
  | [], b, h => by cases b <;> first | rfl | cases h
  | a :: as, b, h => by
    cases b with
    | nil => cases h
    | cons b bs =>
      have h' : (D.beq a b && Ds.beq as bs) = true := h
      rw [Bool.and_eq_true] at h'
      rw [D.beq_eq a b h'.1, Ds.beq_eq as bs h'.2]
end

/-- what is known of the program by number or name -/
inductive Kn where
  | fn (x : PySem.Str) (n k : Nat) | mw (c m k : Nat) (kw : PySem.Str) | mt (c m n k : Nat) | pr (c m k : Nat) | mk (x : PySem.Str) (c n k : Nat)
structure Tb where
  fns : List Kn
  exs : List (PySem.Str × List Nat × Nat) := []
  xm : List Nat := []
  na : List (Nat × Nat) := []
  glb : List (PySem.Str × D) := []
  bi : List PySem.Str := []
  xi : Bool := false
  tb : List (PySem.Str × List (PySem.Str × D)) := []
structure Sx where
  N : List PySem.Str
  sc : Scope
  fa : Bool := true
  fs : List (PySem.Str × NameKind) := []
  calm : Bool := true
  st : Bool := true
  cu : Option Nat := none
  k : Nat

def visB (sc : Scope) (x : PySem.Str) : Bool := match sc.names.lookup x with
  | some .local => true
  | some .cell => true
  | some .free => true
  | _ => false
def glB (sc : Scope) (x : PySem.Str) : Bool := sc.names.lookup x == some .globalImplicit
def okName (x : PySem.Str) : Bool := !(x == ("__debug__" : PySem.Str)) && !(x == ("__classdict__" : PySem.Str))
def stoB (s : Sx) (x : PySem.Str) : Bool := match s.sc.names.lookup x with
  | some .local => true
  | some .cell => s.fa || (s.fs.lookup x == some .cell)
  | _ => false
def litB : D → Const → Bool
  | .non, .none => true
  | .bl b, .bool b' => b == b'
  | .int i, .int j => i == j
  | .str x, .str y => x == y
  | .sy n, .str y => nm n == y
  | _, _ => false
def binP : Operator → Option Pr
  | .Add => some .add | .Sub => some .sub | .Mult => some .mul | .FloorDiv => some .fdiv | .Mod => some .mod | .Pow => some .pow | .RShift => some .shr | .BitAnd => some .band | .BitXor => some .bxor
  | _ => none
def cmpP : CmpOp → Pr
  | .Eq => .eq | .NotEq => .ne | .Lt => .lt | .LtE => .le | .Gt => .gt | .GtE => .ge | .Is => .is | .IsNot => .isNot | .In => .in_ | .NotIn => .notIn
def cmpD : CmpOp → Option Pr
  | .Eq => some .eqz | .In => some .din | .NotIn => some .dnotIn
  | _ => none
/-- a built-in's name -/
def bltP : Pr → Option PySem.Str
  | .sort2 => some "sorted" | .len => some "len" | .int_ => some "int" | .list_ => some "list" | .tuple_ => some "tuple" | .min2 => some "min" | .max2 => some "max" | .ord => some "ord" | .str_ => some "str"
  | _ => none
def tyStr : Ty → PySem.Str
  | .bool => "bool" | .int => "int" | .str => "str" | .list => "list" | .tuple => "tuple"
def Es.len : Es → Nat
  | .nil => 0
  | .cons _ r => r.len + 1
/-- the block's own names -/
def blkOk (N : List PySem.Str) (sc scope : Scope) (own : List (PySem.Str × Nat)) : Bool :=
  (scope.kind == .function) && scope.names.all (fun y => scope.names.lookup y.1 == some y.2) && own.all (fun p => N[p.2]? == some p.1) &&
    scope.names.all (fun y => y.2 != .free || (sc.names.lookup y.1 == some .cell || sc.names.lookup y.1 == some .free)) &&
    scope.names.all (fun y => !(y.2 == .local || y.2 == .cell) || ((own.map (·.1)).contains y.1 || !N.contains y.1))
def Sx.blk (s : Sx) (scope : Scope) : Sx := { s with sc := relS scope s.sc, fa := false, fs := scope.names, st := false, cu := none }
/-- nothing that a test asks for in another way -/
def E.tOk : E → Bool
  | .ite _ _ _ => false
  | .andE a b => a.tOk && b.tOk
  | .orE a b => a.tOk && b.tOk
  | .notE a => a.tOk
  | .frz _ => false
  | .tab q _ _ _ _ => decide (q = .has ∨ q = .hasnt)
  | _ => true
def isCmp : Pr → Bool
  | .eq => true | .ne => true | .lt => true | .le => true | .gt => true | .ge => true | .is => true | .isNot => true | .in_ => true | .notIn => true | .din => true | .dnotIn => true | .eqz => true
  | _ => false
def isRngN : Ik → Option Nat
  | .rng1 => some 1 | .rng2 => some 2 | .rng3 => some 3
  | _ => none

/-- an operator's operands in the text -/
def opA (T : Tb) (s : Sx) (p : Pr) (a : Expr) : Option (List Expr) := match a with
  | .BinOp a1 o a2 _ => if binP o = some p then some [a1, a2] else none
  | .UnaryOp .USub a1 _ => if p = .neg then some [a1] else none
  | .Compare a1 [o] [a2] _ => if (cmpP o = p ∨ cmpD o = some p) ∧ isSet a2 = false then some [a1, a2] else none
  | .Subscript a1 a2 _ => match a2 with
    | .Slice none none none _ => if p = .sl00 then some [a1] else none
    | .Slice none (some a3) none _ => if p = .sl01 then some [a1, a3] else none
    | .Slice (some a3) none none _ => if p = .sl10 then some [a1, a3] else none
    | _ => if (p = .ix ∨ p = .dix) ∧ isSlice a2 = false then some [a1, a2] else none
  | .Call (.Name x _) as [] _ => if glB s.sc x = true ∧ T.bi.contains x = true ∧ noStars as = true ∧ as.isEmpty = false then (match p, as with
      | .isinst t, [a1, .Name y _] => if x = "isinstance" ∧ y = tyStr t ∧ glB s.sc y = true ∧ T.bi.contains y = true then some [a1] else none
      | .lrev, [.Call (.Name y _) [a1] [] _] => if x = "list" ∧ y = "reversed" ∧ glB s.sc y = true ∧ T.bi.contains y = true ∧ noStar a1 = true ∧ s.calm = true then some [a1] else none
      | p, as => if bltP p = some x ∧ ((p = .min2 ∨ p = .max2) → s.calm = true) then some as else none) else none
  | _ => none
def rngOk (k : Ik) (x : PySem.Str) (n : Nat) (atg : Expr) : Bool := match k with
  | .ex => false
  | .rng1 => (x == "range") && (n == 1)
  | .rng2 => (x == "range") && (n == 2)
  | .rng3 => (x == "range") && (n == 3)
  | .enum => (x == "enumerate") && ((n == 1) && isTupE atg)
  | .rev => (x == "reversed") && (n == 1)
  | .enumR => false
  | .keys _ _ => false
def methOk (p : Pr) (x : PySem.Str) (n : Nat) : Bool := match p with
  | .append => (x == "append") && (n == 1)
  | .extend => (x == "extend") && (n == 1)
  | .get1 => (x == "get") && (n == 1)
  | .count => (x == "count") && (n == 1)
  | .index => (x == "index") && (n == 1)
  | .get2 => (x == "get") && (n == 2)
  | _ => false

def isNonE : E → Bool
  | .lit .non => true
  | _ => false
theorem isNonE_ok {e : E} (h : isNonE e = true) : e = .lit .non := by
  unfold isNonE at h
  split at h
  · rfl
  · cases h
/-- the same table -/
def kvB : List (PySem.Str × D) → List (PySem.Str × D) → Bool
  | [], [] => true
  | (k, d) :: r, (k2, d2) :: r2 => (k == k2) && (D.beq d d2 && kvB r r2)
  | _, _ => false
theorem kvB_eq : ∀ {a b : List (PySem.Str × D)}, kvB a b = true → a = b
  | [], [], _ => rfl
  | (k, d) :: r, (k2, d2) :: r2, h => by
    have h' : ((k == k2) && (D.beq d d2 && kvB r r2)) = true := h
    rw [Bool.and_eq_true, Bool.and_eq_true, beq_iff_eq] at h'
    rw [h'.1, D.beq_eq _ _ h'.2.1, kvB_eq h'.2.2]
/-- the same table's keys -/
def tbK (T : Tb) (s : Sx) (x y : PySem.Str) (ks : List PySem.Str) : Bool := (x == y) && (glB s.sc x && (okName x && T.tb.any fun p => (p.1 == x) && (p.2.map (·.1) == ks)))
def tbB (T : Tb) (s : Sx) (x y : PySem.Str) (kvs : List (PySem.Str × D)) : Bool := (x == y) && (glB s.sc x && (okName x && T.tb.any fun p => (p.1 == x) && kvB p.2 kvs))
mutual
def chkE (T : Tb) (s : Sx) : E → Expr → Bool
  | .var i, a => match a with
    | .Name x _ => (s.N[i]? == some x) && (visB s.sc x && okName x)
    | _ => false
  | .lit d, a => match a with
    | .Constant c _ _ => litB d c
    | _ => false
  | .glb x d, a => match a with
    | .Name y _ => (x == y) && (glB s.sc x && (okName x && T.glb.any fun p => (p.1 == x) && D.beq p.2 d))
    | _ => false
  | .op p m es, a => match opA T s p a with
    | some as => chkEs T s es as
    | none => false
  | .tup es, a => match a with
    | .Tuple as _ _ => noStars as && chkEs T s es as
    | _ => false
  | .lst m es, a => match a with
    | .List as _ => noStars as && chkEs T s es as
    | _ => false
  | .andE e1 e2, a => match a with
    | .BoolOp .And (a :: b :: r) pos => chkE T s e1 a && (match r with
      | [] => chkE T s e2 b
      | d :: r => chkE T s e2 (.BoolOp .And (b :: d :: r) pos))
    | _ => false
  | .orE e1 e2, a => match a with
    | .BoolOp .Or (a :: b :: r) pos => chkE T s e1 a && (match r with
      | [] => chkE T s e2 b
      | d :: r => chkE T s e2 (.BoolOp .Or (b :: d :: r) pos))
    | _ => false
  | .notE e1, a => match a with
    | .UnaryOp .Not a _ => chkE T s e1 a
    | _ => false
  | .ite c e1 e2, a => match a with
    | .IfExp a b d _ => c.tOk && (chkE T s c a && (chkE T s e1 b && chkE T s e2 d))
    | _ => false
  | .meth p m o es, a => match a with
    | .Call (.Attribute ao x apos) as [] cpos => noSup ao && ((apos.endLine == cpos.line) && (noStars as && (methOk p x as.length && (chkE T s o ao && chkEs T s es as))))
    | _ => false
  | .call f es, a => match a with
    | .Call (.Name x _) as [] _ => s.calm && (match T.fns[f]? with
      | some (.fn y n k) => (x == y) && (glB s.sc x && (okName x && (decide (k ≤ s.k) && (noStars as && chkEs T s es as))))
      | _ => false)
    | _ => false
  | .mcall c f m o es, a => match T.fns[f]? with
    | some (.mw c' m' k kw) => s.calm && (c == c' && (m == m' && (decide (k ≤ s.k) && (match es with
      | .cons e1 (.cons e2 .nil) => match a with
        | .Call (.Attribute ao x apos) [a1] [] cpos => noSup ao && ((apos.endLine == cpos.line) && (noStars [a1] && (chkE T s o ao && (chkE T s e1 a1 && (isNonE e2 && nm m == x)))))
        | .Call (.Attribute ao x apos) [a1] [⟨some y, a2, _⟩] cpos => noSup ao && ((apos.endLine == cpos.line) && (noStars [a1] && (chkE T s o ao && (chkE T s e1 a1 && (chkE T s e2 a2 && (nm m == x && kw == y))))))
        | _ => false
      | _ => false))))
    | _ => match a with
    | .Call (.Attribute ao x apos) as [] cpos => s.calm && (noSup ao && ((apos.endLine == cpos.line) && (noStars as && (decide (as.length < 30) && (chkE T s o ao && (chkEs T s es as && (match T.fns[f]? with
      | some (.mt c' m' n k) => (c == c') && ((m == m') && ((nm m == x) && decide (k ≤ s.k)))
      | _ => false)))))))
    | _ => false
  | .prop c f o, a => match a with
    | .Attribute ao x _ => s.calm && (noSup ao && (chkE T s o ao && (match T.fns[f]? with
      | some (.pr c' m k) => (c == c') && ((nm m == x) && decide (k + 1 ≤ s.k))
      | _ => false)))
    | _ => false
  | .make c f es, a => match a with
    | .Call (.Name x _) as [] _ => s.calm && (match T.fns[f]? with
      | some (.mk y c' n k) => (x == y) && ((c == c') && (glB s.sc x && (okName x && (decide (k + 1 ≤ s.k) && (noStars as && chkEs T s es as)))))
      | _ => false)
    | _ => false
  | .sl3 m e1 e2 e3, a => match a with
    | .Subscript a1 (.Slice (some a2) (some a3) none _) _ => chkE T s e1 a1 && (chkE T s e2 a2 && chkE T s e3 a3)
    | _ => false
  | .fld c e f, a => match a with
    | .Attribute ao x _ => noSup ao && ((nm f == x) && (T.na.contains (c, f) && chkE T s e ao))
    | _ => false
  | .tab q x kvs e d, a => match q with
    | .has => (match a with
      | .Compare a1 [.In] [.Name y _] _ => tbB T s x y kvs && chkE T s e a1
      | _ => false)
    | .hasnt => (match a with
      | .Compare a1 [.NotIn] [.Name y _] _ => tbB T s x y kvs && chkE T s e a1
      | _ => false)
    | .item => (match a with
      | .Subscript (.Name y _) a1 _ => tbB T s x y kvs && (!isSlice a1 && chkE T s e a1)
      | _ => false)
    | .get1 => (match a with
      | .Call (.Attribute (.Name y p1) m p2) [a1] [] p3 => tbB T s x y kvs && ((m == "get") && ((p2.endLine == p3.line) && (noStar a1 && chkE T s e a1)))
      | _ => false)
    | .get2 => (match a with
      | .Call (.Attribute (.Name y p1) m p2) [a1, a2] [] p3 => tbB T s x y kvs && ((m == "get") && ((p2.endLine == p3.line) && (noStar a1 && (noStar a2 && (chkE T s e a1 && chkE T s d a2)))))
      | _ => false)
  | .xis i h, a => match a with
    | .Call (.Name w _) [.Name x _, .Name y _] [] _ => (s.cu == some i) && ((s.N[i]? == some x) && (visB s.sc x && (okName x && (T.xi && (w == "isinstance" && (glB s.sc w && (T.bi.contains w && (glB s.sc y && (okName y && (match T.exs[h]? with
      | some (z, _, _) => z == y
      | none => false))))))))))
    | _ => false
  | .xfld i f, a => match a with
    | .Attribute (.Name x _) y _ => (s.cu == some i) && ((s.N[i]? == some x) && ((nm f == y) && (visB s.sc x && (okName x && T.xm.contains f))))
    | _ => false
  | .chain p q e1 e2 e3, a => match a with
    | .Compare a1 [o1, o2] [a2, a3] _ => (cmpP o1 == p) && ((cmpP o2 == q) && (!isSet a3 && (chkE T s e1 a1 && (chkE T s e2 a2 && chkE T s e3 a3))))
    | _ => false
  | .frz e, a => chkE T s e a
  | .newD t, a => match a with
    | .Dict [] [] _ => true
    | _ => false
  | .disp es, a => match a with
    | .Dict keys values _ => decide (keys.length ≤ 15) && (!keys.isEmpty && chkPs T s es keys values)
    | _ => false
  | .comp m own elt t k es ifs, a => match a with
    | .ListComp aelt [⟨atg, aiter, aifs, z⟩] scope _ => (z == 0) && (s.calm && (blkOk s.N s.sc scope own && ((t.slots.all fun i => (own.map (·.2)).contains i) && (!isSet aiter && (chkI T s k es aiter atg && (chkTg T (s.blk scope) t atg && (chkE T (s.blk scope) elt aelt && (match ifs with
      | .nil => aifs.isEmpty
      | .cons c .nil => (match aifs with
        | [ac] => c.tOk && chkE T (s.blk scope) c ac
        | _ => false)
      | _ => false))))))))
    | _ => false
  | .comp2 m own elt t k es t2 k2 es2, a => match a with
    | .ListComp aelt [⟨atg, aiter, [], z⟩, ⟨atg2, aiter2, [], z2⟩] scope _ => (z == 0) && ((z2 == 0) && (s.calm && (blkOk s.N s.sc scope own && ((t.slots.all fun i => (own.map (·.2)).contains i) && ((t2.slots.all fun i => (own.map (·.2)).contains i) &&
      (!isSet aiter && (!isSet aiter2 && (chkI T s k es aiter atg && (chkTg T (s.blk scope) t atg && (chkI T (s.blk scope) k2 es2 aiter2 atg2 && (chkTg T (s.blk scope) t2 atg2 && chkE T (s.blk scope) elt aelt)))))))))))
    | _ => false
  | .dcomp own kx vx t k es ifs, a => match a with
    | .DictComp akx avx [⟨atg, aiter, aifs, z⟩] scope _ => (z == 0) && (s.calm && (blkOk s.N s.sc scope own && ((t.slots.all fun i => (own.map (·.2)).contains i) && (!isSet aiter && (chkI T s k es aiter atg && (chkTg T (s.blk scope) t atg && (chkE T (s.blk scope) kx akx && (chkE T (s.blk scope) vx avx && (match ifs with
      | .nil => aifs.isEmpty
      | .cons c .nil => (match aifs with
        | [ac] => c.tOk && chkE T (s.blk scope) c ac
        | _ => false)
      | _ => false)))))))))
    | _ => false
def chkEs (T : Tb) (s : Sx) : Es → List Expr → Bool
  | .nil, as => as.isEmpty
  | .cons e es, as => match as with
    | a :: as => chkE T s e a && chkEs T s es as
    | [] => false
/-- keys and values -/
def chkPs (T : Tb) (s : Sx) : Es → List (Option Expr) → List Expr → Bool
  | .nil, ks, vs => ks.isEmpty && vs.isEmpty
  | .cons e r, ks, vs => match ks with
    | some k :: ks => chkE T s e k && chkVs T s r ks vs
    | _ => false
def chkVs (T : Tb) (s : Sx) : Es → List (Option Expr) → List Expr → Bool
  | .nil, _, _ => false
  | .cons e r, ks, vs => match vs with
    | v :: vs => chkE T s e v && chkPs T s r ks vs
    | [] => false
/-- what is walked -/
def chkI (T : Tb) (s : Sx) (k : Ik) : Es → Expr → Expr → Bool
  | .nil, aiter, _ => match k with
    | .keys x ks => (match aiter with
      | .Name y _ => tbK T s x y ks
      | _ => false)
    | _ => false
  | .cons e r, aiter, atg => match k with
    | .ex => (r.len == 0) && chkE T s e aiter
    | .enumR => (match aiter with
      | .Call (.Name x _) [.Call (.Name y _) [a1] [] _] [] _ => (x == "enumerate" && y == "reversed") && (isTupE atg && ((glB s.sc x && T.bi.contains x) && ((glB s.sc y && T.bi.contains y) && (noStar a1 && ((r.len == 0) && chkE T s e a1)))))
      | _ => false)
    | _ => match aiter with
      | .Call (.Name x _) (a :: as) [] _ => glB s.sc x && (T.bi.contains x && (noStars (a :: as) && (rngOk k x (as.length + 1) atg && (chkE T s e a && chkEs T s r as))))
      | _ => false
def chkTg (T : Tb) (s : Sx) : Tg → Expr → Bool
  | .nm i, a => match a with
    | .Name x _ => (s.N[i]? == some x) && stoB s x
    | _ => false
  | .tup ts, a => match a with
    | .Tuple as _ _ => s.calm && (noStars as && ((ts.len == as.length) && chkTgs T s ts as))
    | _ => false
  | .sub o i, a => match a with
    | .Subscript ao ai _ => !isSlice ai && (chkE T s o ao && chkE T s i ai)
    | _ => false
  | .dsub o i, a => match a with
    | .Subscript ao ai _ => !isSlice ai && (chkE T s o ao && chkE T s i ai)
    | _ => false
  | .slc o e2 e3, a => match a with
    | .Subscript ao (.Slice (some a2) (some a3) none _) _ => chkE T s o ao && (chkE T s e2 a2 && chkE T s e3 a3)
    | _ => false
  | .att c o f, a => match a with
    | .Attribute ao x _ => (nm f == x) && (T.na.contains (c, f) && chkE T s o ao)
    | _ => false
def chkTgs (T : Tb) (s : Sx) : Tgs → List Expr → Bool
  | .nil, as => as.isEmpty
  | .cons t ts, as => match as with
    | a :: as => chkTg T s t a && chkTgs T s ts as
    | [] => false
end
end Mo
/-! Mo12: what is checked holds: operators. -/
namespace Mo
open PySem PySem.Spec L2
open PyProof.Rows hiding St

structure TOk (T : Tb) (ev : Ev) (P : Program) (w : World) (K : PySem.W.Frag) (mg : PySem.Str → Option Value) (base : Heap) (g : Gd) : Prop where
  fn : ∀ (f : Nat) x n k, T.fns[f]? = some (.fn x n k) → ∃ C, ev.fn f = arC n C ∧ FnKn P w K mg base g x n k C
  mt : ∀ (f : Nat) c m n k, T.fns[f]? = some (.mt c m n k) → ∃ C, ev.fn f = arC n C ∧ MtKn P w K mg base g c m n k C
  mw : ∀ (f : Nat) c m k kw, T.fns[f]? = some (.mw c m k kw) → ∃ C, ev.fn f = arC 3 C ∧ MwKn P w K mg base g c m k kw C
  pr : ∀ (f : Nat) c m k, T.fns[f]? = some (.pr c m k) → ∃ C, ev.fn f = arC 1 C ∧ PrKn P w K mg base g c m k C
  mk_ : ∀ (f : Nat) x c n k, T.fns[f]? = some (.mk x c n k) → ∃ C, ev.fn f = arC n C ∧ MkKn P w K mg base g x c n k C
  exn : ev.exn = T.exs.length
  ex0 : ∀ (c : Nat) x k, T.exs[c]? = some (x, [], k) → ExKn K mg g x c
  exI : ∀ (c : Nat) x f ks k, T.exs[c]? = some (x, f :: ks, k) → ExIn P w K mg base g x c (f :: ks) k
  tab : ExTab K g T.exs.length
  xf : ∀ i, i < T.exs.length → XfC K (g.ca i)
  xi : T.xi = true → ∀ i, i < T.exs.length → XiC K (g.ca i)
  xm : ∀ i m, i < T.exs.length → m ∈ T.xm → PySem.W.findIn K (.ref (g.ca i)) (nm m) = some none
  na : ∀ c f, (c, f) ∈ T.na → Cls K (g.ca c) ∧ NoAttr K (g.ca c) (nm f)
  glb : ∀ x d, (x, d) ∈ T.glb → GbKn K mg x d
  bi : ∀ x, x ∈ T.bi → mg x = none
  tb : ∀ x kvs, (x, kvs) ∈ T.tb → TbKn K w mg x kvs
/-- the handled exception's facts -/
structure CuOk (T : Tb) (X : Cx) (c : Cf) (x : Exn) (i : Nat) : Prop where
  ex : ∃ (Y : Cx) (a : Addr) (oe : Obj) (cls : Value) (dd : Option Addr) (pn : List (Addr × Obj)), X = Y.suite a ((a, oe) :: pn) ∧ c.cx = some (x, dd, a, i) ∧ cls = .ref (c.g.ca x.cls) ∧ Zc cls dd oe ∧ (∃ vs, oe.data = .fields vs) ∧ x.cls < T.exs.length
structure XOk (T : Tb) (ev : Ev) (s : Sx) (X : Cx) (c : Cf) : Prop where
  tb : TOk T ev X.prog X.w X.K X.mg X.base c.g
  hK : c.g.K = X.K
  N : X.N = s.N
  nd : s.N.Nodup
  sc : X.env.scope = s.sc
  fnc : ∀ x, (s.fa || (s.fs.lookup x == some .cell)) = true → X.fn x = true
  calm : s.calm = true → X.calm = true
  room : s.calm = true → Room s.k X.A
  un : X.A.units + 66 < cLine
  tk : Takes X c.Wx
  st : s.st = true → c.cx = none ∧ PassesOwn (model X.prog X.w) X.A X.env X.xe ∧ X.stack = X.env :: X.outer ∧ X.env.frame = some X.env.locals
  cu : ∀ i, s.cu = some i → ∃ x, ev.cx = some (x, i) ∧ CuOk T X c x i

section
variable {T : Tb} {ev : Ev} {s : Sx} {X : Cx} {c : Cf} {x : PySem.Str}
theorem vis_ok (O : XOk T ev s X c) (h : visB s.sc x = true) : Vis X.env.scope x := by
  rw [O.sc]
  unfold visB at h
  unfold Vis
  split at h
  · rename_i e; exact .inl e
  · rename_i e; exact .inr (.inl e)
  · rename_i e; exact .inr (.inr e)
  · cases h
theorem gl_ok (O : XOk T ev s X c) (h : glB s.sc x = true) : Gl X x := by
  unfold Gl Env.kindOf
  rw [O.sc]
  exact beq_iff_eq.mp h
theorem okName1 (h : okName x = true) : (x == ("__debug__" : PySem.Str)) = false := by
  unfold okName at h
  rw [Bool.and_eq_true] at h
  simpa using h.1
theorem okName2 (h : okName x = true) : (x == ("__classdict__" : PySem.Str)) = false := by
  unfold okName at h
  rw [Bool.and_eq_true] at h
  simpa using h.2
theorem slot_ok (O : XOk T ev s X c) {i : Nat} (h : (s.N[i]? == some x) = true) : X.N[i]? = some x := by
  rw [O.N]
  exact beq_iff_eq.mp h
theorem sto_ok (O : XOk T ev s X c) (h : stoB s x = true) : L2.Loc X.env.scope x ∧ (X.fn x = true ∨ X.env.scope.names.lookup x = some .local) := by
  unfold stoB at h
  unfold L2.Loc
  rw [O.sc]
  split at h
  · rename_i e; exact ⟨.inl e, .inr e⟩
  · rename_i e; exact ⟨.inr e, .inl (O.fnc x h)⟩
  · cases h
theorem bi_ok (O : XOk T ev s X c) (h : T.bi.contains x = true) : X.mg x = none := O.tb.bi x (by simpa using h)
end

/-- operands, evaluated -/
def evL : List (Sl → Store → Rs D) → Sl → Store → Rs (List D)
  | [], _, M => rok [] M
  | f :: fs, δ, M => bnd (f δ M) fun d M1 => bnd (evL fs δ M1) fun ds M2 => rok (d :: ds) M2
noncomputable def Es.fs (ev : Ev) : Es → List (Sl → Store → Rs D)
  | .nil => []
  | .cons e r => evE ev e :: r.fs ev
theorem evEs_eq (ev : Ev) : ∀ (es : Es) δ M, evEs ev es δ M = evL (es.fs ev) δ M
  | .nil, _, _ => by rw [evEs] <;> rfl
  | .cons e r, δ, M => by
    rw [evEs]
    show _ = bnd (evE ev e δ M) fun d M1 => bnd (evL (r.fs ev) δ M1) fun ds M2 => rok (d :: ds) M2
    congr 1
    funext d M1
    rw [evEs_eq ev r]
inductive JL (X : Cx) (c : Cf) : List Expr → List (Sl → Store → Rs D) → Prop
  | nil : JL X c [] []
  | cons {a : Expr} {as : List Expr} {f : Sl → Store → Rs D} {fs : List (Sl → Store → Rs D)} (h : JE X c a f) (r : JL X c as fs) : JL X c (a :: as) (f :: fs)
theorem JL.ja {X : Cx} {c : Cf} {as : List Expr} {fs : List (Sl → Store → Rs D)} (h : JL X c as fs) (hs : noStars as = true) : JA X c as (evL fs) := by
  induction h with
  | nil => exact ja_nil
  | cons h r ih =>
    unfold noStars at hs
    rw [Bool.and_eq_true] at hs
    exact ja_cons h (ih hs.2) (starEach_cons hs.1)
theorem JL.length {X : Cx} {c : Cf} {as : List Expr} {fs : List (Sl → Store → Rs D)} (h : JL X c as fs) : fs.length = as.length := by
  induction h with
  | nil => rfl
  | cons h r ih => simp [ih]
section
variable {X : Cx} {c : Cf} {a a1 a2 a3 : Expr} {fs : List (Sl → Store → Rs D)}
theorem JL.one (h : JL X c [a1] fs) : ∃ f1, fs = [f1] ∧ JE X c a1 f1 := by
  cases h with
  | cons h r => cases r; exact ⟨_, rfl, h⟩
theorem JL.two (h : JL X c [a1, a2] fs) : ∃ f1 f2, fs = [f1, f2] ∧ JE X c a1 f1 ∧ JE X c a2 f2 := by
  cases h with
  | cons h r =>
    obtain ⟨f2, rfl, h2⟩ := r.one
    exact ⟨_, _, rfl, h, h2⟩
theorem JL.three (h : JL X c [a1, a2, a3] fs) : ∃ f1 f2 f3, fs = [f1, f2, f3] ∧ JE X c a1 f1 ∧ JE X c a2 f2 ∧ JE X c a3 f3 := by
  cases h with
  | cons h r =>
    obtain ⟨f2, f3, rfl, h2, h3⟩ := r.two
    exact ⟨_, _, _, rfl, h, h2, h3⟩
end
noncomputable def opF (p : Pr) (m : Bool) (fs : List (Sl → Store → Rs D)) : Sl → Store → Rs D := fun δ M => bnd (evL fs δ M) fun ds M1 => po m M1 (prim p ds M1)
theorem opF1 {p : Pr} {m : Bool} {f1 : Sl → Store → Rs D} : opF p m [f1] = fun δ M => bnd (f1 δ M) fun d1 M1 => po m M1 (prim p [d1] M1) := by
  funext δ M
  simp [opF, evL, bnd_assoc]
theorem opF2 {p : Pr} {m : Bool} {f1 f2 : Sl → Store → Rs D} : opF p m [f1, f2] = fun δ M => bnd (f1 δ M) fun d1 M1 => bnd (f2 δ M1) fun d2 M2 => po m M2 (prim p [d1, d2] M2) := by
  funext δ M
  simp [opF, evL, bnd_assoc]
theorem ji_eq {X : Cx} {c : Cf} {tg a : Expr} {f g : Sl → Store → Rs Items} (h : JI X c tg a f) (e : f = g) : JI X c tg a g := e ▸ h
theorem je_eq {X : Cx} {c : Cf} {a : Expr} {f g : Sl → Store → Rs D} (h : JE X c a f) (e : f = g) : JE X c a g := e ▸ h

section
variable {T : Tb} {ev : Ev} {s : Sx} {X : Cx} {c : Cf} {m : Bool} {fs : List (Sl → Store → Rs D)}
theorem bin_ok (O : XOk T ev s X c) {o : Operator} {p : Pr} {a1 a2 : Expr} {pos : Pos} (h : binP o = some p) (hj : JL X c [a1, a2] fs) : JE X c (.BinOp a1 o a2 pos) (opF p m fs) := by
  obtain ⟨f1, f2, rfl, h1, h2⟩ := hj.two
  rw [opF2]
  have hK := O.hK
  cases o <;> cases h
  · exact je_bin op_addM (hK ▸ ok_add) h1 h2
  · exact je_bin op_sub ok_sub h1 h2
  · exact je_bin op_mulM (hK ▸ ok_mul) h1 h2
  · exact je_bin op_mod ok_mod h1 h2
  · exact je_bin op_pow ok_pow h1 h2
  · exact je_bin op_shr ok_shr h1 h2
  · exact je_bin op_xor ok_bxor h1 h2
  · exact je_bin op_and ok_band h1 h2
  · exact je_bin op_fdivW ok_fdiv h1 h2
/-- a comparison's operator -/
theorem cmpR_ok (O : XOk T ev s X c) (o : CmpOp) : ∃ r, OpR X (compareOp o) r ∧ Ok2 c.g r (prim (cmpP o)) := by
  have hK := O.hK
  have hu := O.un
  cases o
  · exact ⟨_, op_eqD (by omega), hK ▸ ok_eq⟩
  · exact ⟨_, op_neD (by omega), hK ▸ ok_ne⟩
  · exact ⟨_, op_ltM (by omega), hK ▸ ok_lt⟩
  · exact ⟨_, op_le, ok_le⟩
  · exact ⟨_, op_gt, ok_gt⟩
  · exact ⟨_, op_ge, ok_ge⟩
  · exact ⟨_, op_isM, ok_is⟩
  · exact ⟨_, op_isNotM, ok_isNot⟩
  · exact ⟨_, op_inM (by omega), hK ▸ ok_in⟩
  · exact ⟨_, op_notInM (by omega), hK ▸ ok_notIn⟩
theorem jcmp_ok (O : XOk T ev s X c) {o : CmpOp} {p : Pr} {a1 a2 : Expr} (h : cmpP o = p ∨ cmpD o = some p) (hj : JL X c [a1, a2] fs) : JC X c o a1 a2 (opF p m fs) := by
  obtain ⟨f1, f2, rfl, h1, h2⟩ := hj.two
  rw [opF2]
  rcases h with h | h
  · subst h
    obtain ⟨r, ho, ok⟩ := cmpR_ok O o
    exact jc_op ho ok h1 h2
  · have hu := O.un
    cases o <;> cases h
    · exact jc_op (op_eqz (by omega)) (O.hK ▸ ok_eqz) h1 h2
    · exact jc_din (by omega) h1 h2
    · exact jc_dnotin (by omega) h1 h2
/-- built-ins -/
theorem blt_ok (O : XOk T ev s X c) {p : Pr} {x : PySem.Str} {as : List Expr} {p1 p2 : Pos} (h : bltP p = some x) (hg : glB s.sc x = true) (hb : T.bi.contains x = true) (hs : noStars as = true) (hne : as.isEmpty = false) (hc : p = .min2 ∨ p = .max2 → X.calm = true) (hj : JL X c as fs) :
    JE X c (.Call (.Name x p1) as [] p2) (opF p m fs) := by
  have hK := O.hK
  have g := gl_ok O hg
  have b := bi_ok O hb
  cases as with
  | nil => cases hne
  | cons e es =>
    have ja := hj.ja hs
    have hs' := hs
    unfold noStars at hs'
    rw [Bool.and_eq_true] at hs'
    have e1 := starEach_cons (es := es) (env := X.env) hs'.1
    have e2 := backTo_any (pos := p2) (env := X.env) hs'.2
    cases p <;> cases h
    all_goals try exact je_callB (r := rSortedS X.K) (p' := pSort2) cr_sortedS (hK ▸ ok_sort2) g b (by decide +kernel) ja (by decide +kernel) (by decide +kernel) e1 e2
    · exact je_callB (r := rLenM X.K) (p' := pLen) call_lenM (hK ▸ ok_len) g b (by decide +kernel) ja (by decide +kernel) (by decide +kernel) e1 e2
    · exact je_callTy call_intM ok_int g b (by decide +kernel) ja (by decide +kernel) (by decide +kernel) e1 e2
    · exact je_callTy (r := rListM X.K) call_list_of (hK ▸ ok_list) g b (by decide +kernel) ja (by decide +kernel) (by decide +kernel) e1 e2
    · exact je_callTy (r := rTupleM X.K) call_tuple_of (hK ▸ ok_tuple) g b (by decide +kernel) ja (by decide +kernel) (by decide +kernel) e1 e2
    · exact je_callB (call_min2 (hc (.inl rfl))) ok_min g b (by decide +kernel) ja (by decide +kernel) (by decide +kernel) e1 e2
    · exact je_callB (call_max2 (hc (.inr rfl))) ok_max g b (by decide +kernel) ja (by decide +kernel) (by decide +kernel) e1 e2
    · exact je_callB call_ord ok_ord g b (by decide +kernel) ja (by decide +kernel) (by decide +kernel) e1 e2
    · exact je_callTy call_str_int ok_str g b (by decide +kernel) ja (by decide +kernel) (by decide +kernel) e1 e2
end
section
variable {T : Tb} {ev : Ev} {s : Sx} {X : Cx} {c : Cf} {m : Bool} {fs : List (Sl → Store → Rs D)}
theorem sub_ok (O : XOk T ev s X c) {p : Pr} {a1 a2 : Expr} {pos : Pos} (h : p = .ix ∨ p = .dix) (hs : isSlice a2 = false) (hj : JL X c [a1, a2] fs) : JE X c (.Subscript a1 a2 pos) (opF p m fs) := by
  obtain ⟨f1, f2, rfl, h1, h2⟩ := hj.two
  rw [opF2]
  have hu := O.un
  rcases h with h | h <;> subst h
  · exact je_ix (plainIx_ok hs) h1 h2 O.hK
  · exact je_dix (by omega) h1 h2 (noSl_ok hs)
theorem tyStr_boot (t : Ty) : bootBuiltins (tyStr t) = some (.type (tyName t)) := by
  cases t <;> decide +kernel
theorem tyStr_ok (t : Ty) : tyStr t ≠ "__name__" ∧ (tyStr t == ("__debug__" : PySem.Str)) = false := by
  cases t <;> decide +kernel
theorem isi_ok (O : XOk T ev s X c) {t : Ty} {a1 : Expr} {y : PySem.Str} {p1 p2 p3 : Pos} (hg : glB s.sc "isinstance" = true) (hb : T.bi.contains ("isinstance" : PySem.Str) = true) (hs : noStar a1 = true) (hy : y = tyStr t) (hgy : glB s.sc y = true) (hby : T.bi.contains y = true) (hj : JL X c [a1] fs) :
    JE X c (.Call (.Name "isinstance" p1) [a1, .Name y p2] [] p3) (opF (.isinst t) m fs) := by
  obtain ⟨f1, rfl, h1⟩ := hj.one
  rw [opF1]
  subst hy
  have e2 : PE X (.Name (tyStr t) p2) (tC (.ty (tyName t))) := pe_bltn (gl_ok O hgy) (bi_ok O hby) (tyStr_boot t) (by rfl) (tyStr_ok t).1 (tyStr_ok t).2
  exact je_isinst O.hK (gl_ok O hg) (bi_ok O hb) h1 e2 (starEach_cons hs) rfl rfl
theorem opA_ok (O : XOk T ev s X c) {p : Pr} {a : Expr} {as : List Expr} (h : opA T s p a = some as) (hj : JL X c as fs) : JE X c a (opF p m fs) := by
  unfold opA at h
  split at h
  · split at h
    · rename_i hb; cases h; exact bin_ok O hb hj
    · cases h
  · split at h
    · rename_i hb
      cases h
      subst hb
      obtain ⟨f1, rfl, h1⟩ := hj.one
      rw [opF1]
      exact je_un un_neg ok_neg h1
    · cases h
  · split at h
    · rename_i hb; cases h; exact je_c (jcmp_ok O hb.1 hj) (behind_no hb.2)
    · cases h
  · split at h
    · split at h
      · rename_i hb
        cases h
        subst hb
        obtain ⟨f1, rfl, h1⟩ := hj.one
        rw [opF1]
        exact je_sl00 O.hK h1
      · cases h
    · split at h
      · rename_i hb
        cases h
        subst hb
        obtain ⟨f1, f2, rfl, h1, h2⟩ := hj.two
        rw [opF2]
        exact je_sl01 O.hK h1 h2
      · cases h
    · split at h
      · rename_i hb
        cases h
        subst hb
        obtain ⟨f1, f2, rfl, h1, h2⟩ := hj.two
        rw [opF2]
        exact je_sl10 O.hK h1 h2
      · cases h
    · split at h
      · rename_i hb; cases h; exact sub_ok O hb.1 hb.2 hj
      · cases h
  · split at h
    · rename_i hb
      obtain ⟨hg, hbi, hs, hne⟩ := hb
      split at h
      · split at h
        · rename_i hb
          obtain ⟨rfl, hy, hgy, hby⟩ := hb
          cases h
          unfold noStars at hs
          rw [Bool.and_eq_true] at hs
          exact isi_ok O hg hbi hs.1 hy hgy hby hj
        · cases h
      · split at h
        · rename_i hb
          obtain ⟨rfl, rfl, hgy, hby, hs1, hca⟩ := hb
          cases h
          obtain ⟨f1, rfl, h1⟩ := hj.one
          rw [opF1]
          exact je_lrev O.hK (O.calm hca) (gl_ok O hg) (bi_ok O hbi) (gl_ok O hgy) (bi_ok O hby) h1 (starEach_cons hs1)
        · cases h
      · split at h
        · rename_i hb
          cases h
          exact blt_ok O hb.1 hg hbi hs hne (fun z => O.calm (hb.2 z)) hj
        · cases h
    · cases h
  · cases h
theorem cmp_bl {p : Pr} (h : isCmp p = true) (ds : List D) (M : Store) (o : PO) (e : prim p ds M = some o) : ∃ b M', o = .v (.bl b) M' := by
  cases p <;> try (cases h; done)
  · change pEq ds M = some o at e; unfold pEq at e
    split at e
    · obtain ⟨k, _, rfl⟩ := Option.map_eq_some_iff.mp e; exact ⟨_, _, rfl⟩
    · cases e
  · change pNe ds M = some o at e; unfold pNe at e
    split at e
    · obtain ⟨k, _, rfl⟩ := Option.map_eq_some_iff.mp e; exact ⟨_, _, rfl⟩
    · cases e
  · change pLt ds M = some o at e; unfold pLt at e
    split at e
    · cases e; exact ⟨_, _, rfl⟩
    · split at e
      · cases e; exact ⟨_, _, rfl⟩
      · cases e
    · split at e
      · split at e
        · cases e; exact ⟨_, _, rfl⟩
        · cases e
      · cases e
    · cases e
  · change pLe ds M = some o at e; unfold pLe at e
    split at e
    · cases e; exact ⟨_, _, rfl⟩
    · cases e
  · change pGt ds M = some o at e; unfold pGt at e
    split at e
    · cases e; exact ⟨_, _, rfl⟩
    · cases e
  · change pGe ds M = some o at e; unfold pGe at e
    split at e
    · cases e; exact ⟨_, _, rfl⟩
    · cases e
  · change pIs ds M = some o at e; unfold pIs at e
    split at e
    · cases e; exact ⟨_, _, rfl⟩
    · cases e; exact ⟨_, _, rfl⟩
    · cases e
  · change pIsNot ds M = some o at e; unfold pIsNot at e
    split at e
    · cases e; exact ⟨_, _, rfl⟩
    · cases e; exact ⟨_, _, rfl⟩
    · cases e
  · change pIn ds M = some o at e; unfold pIn at e
    split at e
    · obtain ⟨k, _, rfl⟩ := Option.map_eq_some_iff.mp e; exact ⟨_, _, rfl⟩
    · cases e
  · change pNotIn ds M = some o at e; unfold pNotIn at e
    split at e
    · obtain ⟨k, _, rfl⟩ := Option.map_eq_some_iff.mp e; exact ⟨_, _, rfl⟩
    · cases e
  · change pDin ds M = some o at e; unfold pDin at e
    split at e
    · split at e
      · cases e; exact ⟨_, _, rfl⟩
      · cases e
    · cases e
  · change pDnotIn ds M = some o at e; unfold pDnotIn at e
    split at e
    · split at e
      · cases e; exact ⟨_, _, rfl⟩
      · cases e
    · cases e
  · change pEqz ds M = some o at e; unfold pEqz at e
    split at e
    · split at e
      · split at e
        · obtain ⟨k, _, rfl⟩ := Option.map_eq_some_iff.mp e; exact ⟨_, _, rfl⟩
        · cases e; exact ⟨_, _, rfl⟩
      · cases e
    · cases e
theorem tab_bl {q : Tq} {kvs : List (PySem.Str × D)} {f : Sl → Store → Rs D} (hq : q = .has ∨ q = .hasnt) : BlF (fun δ M => bnd (f δ M) fun k M1 => tabR q kvs k .non M1) := fun δ M d M' e => by
  dsimp only at e
  cases hf : f δ M with
  | none => rw [hf] at e; cases e
  | some o =>
    rw [hf] at e
    cases o with
    | exc x M1 => cases e
    | ok k M1 =>
      rw [bnd_ok] at e
      unfold tabR at e
      split at e
      · rcases hq with rfl | rfl <;> · cases e; exact ⟨_, rfl⟩
      · cases e
theorem opF_bl {p : Pr} (h : isCmp p = true) : BlF (opF p m fs) := fun δ M d M' e => by
  unfold opF at e
  cases q : evL fs δ M with
  | none => rw [q] at e; cases e
  | some o =>
    rw [q] at e
    cases o with
    | exc x M1 => cases e
    | ok ds M1 =>
      rw [bnd_ok] at e
      cases q2 : prim p ds M1 with
      | none => rw [q2] at e; cases e
      | some o =>
        obtain ⟨b, M2, rfl⟩ := cmp_bl h ds M1 o q2
        rw [q2] at e
        cases e
        exact ⟨b, rfl⟩
theorem isCmp_of {o : CmpOp} {p : Pr} (h : cmpP o = p ∨ cmpD o = some p) : isCmp p = true := by
  rcases h with h | h
  · subst h; cases o <;> rfl
  · cases o <;> cases h <;> rfl
theorem opT_ok (O : XOk T ev s X c) {p : Pr} {a : Expr} {as : List Expr} (h : opA T s p a = some as) (hj : JL X c as fs) : JT X c a (tst (opF p m fs)) := by
  by_cases hp : plainT a = true
  · exact jt_truth O.hK (opA_ok O h hj) (plainT_ok hp)
  · unfold opA at h
    split at h
    · exact absurd rfl hp
    · exact absurd rfl hp
    · split at h
      · rename_i hb; cases h; exact jt_c (jcmp_ok O hb.1 hj) (behind_no hb.2) (opF_bl (isCmp_of hb.1))
      · cases h
    · exact absurd rfl hp
    · exact absurd rfl hp
    · cases h
end
end Mo
/-! Mo13: what is checked holds: expressions. -/
namespace Mo
open PySem PySem.Spec L2
open PyProof.Rows hiding St

theorem and1 {a b : Bool} (h : (a && b) = true) : a = true ∧ b = true := by
  rwa [Bool.and_eq_true] at h
theorem blkOk_ok {N : List PySem.Str} {sc scope : Scope} {own : List (PySem.Str × Nat)} (h : blkOk N sc scope own = true) : BlkOk N sc scope own := by
  unfold blkOk at h
  obtain ⟨h, h5⟩ := and1 h
  obtain ⟨h, h4⟩ := and1 h
  obtain ⟨h, h3⟩ := and1 h
  obtain ⟨h1, h2⟩ := and1 h
  rw [List.all_eq_true] at h2 h3 h4 h5
  refine ⟨beq_iff_eq.mp h1, fun y hy => beq_iff_eq.mp (h2 y hy), fun p hp => beq_iff_eq.mp (h3 p hp), fun y hy e => ?_, fun y hy e => ?_⟩
  · have q := h4 y hy
    rw [e] at q
    simpa using q
  · have q := h5 y hy
    have e' : (y.2 == .local || y.2 == .cell) = true := by rcases e with e | e <;> rw [e] <;> rfl
    rw [e'] at q
    simpa using q
section
variable {T : Tb} {ev : Ev} {s : Sx} {X : Cx} {c : Cf}
theorem XOk.blk (O : XOk T ev s X c) (scope : Scope) (st : Shared) (H : Hp) (C : Addr) (cl : List (PySem.Str × Addr)) (fp : List Addr) : XOk T ev (s.blk scope) (X.blk st H scope (compEnvC scope cl C X.env) fp) c.blk :=
  { tb := O.tb, hK := O.hK, N := O.N, nd := O.nd
    sc := (show relS scope X.env.scope = relS scope s.sc by rw [O.sc])
    fnc := fun x h => (show (scope.names.lookup x == some .cell) = true by simpa [Sx.blk] using h)
    calm := O.calm, room := O.room, un := O.un, tk := takes_wf, st := (fun z => nomatch z), cu := (fun i z => nomatch z) }
theorem tst_eq {X : Cx} {c : Cf} {a : Expr} {f g : Sl → Store → Rs D} (h : JT X c a (tst f)) (e : f = g) : JT X c a (tst g) := e ▸ h
theorem JT.pw {op : BoolOp} {as : List Expr} {pos : Pos} {f : Sl → Store → Rs Bool} (h : JT X c (.BoolOp op as pos) f) : JW X c (.BoolOp op as pos) f := ⟨fun w pins s σ H Q I q => h.run pins s σ H Q I q⟩
theorem lit_ok {d : D} {k : Const} {j : Nat} {pos : Pos} (h : litB d k = true) : JE X c (.Constant k j pos) (fun _ M => rok d M) := by
  unfold litB at h
  split at h
  · exact je_con pe_non fun _ _ => rfl
  · rw [beq_iff_eq] at h; subst h; exact je_con pe_bl fun _ _ => rfl
  · rw [beq_iff_eq] at h; subst h; exact je_con pe_int fun _ _ => rfl
  · rw [beq_iff_eq] at h; subst h; exact je_con pe_str fun _ _ => rfl
  · rw [beq_iff_eq] at h; subst h; exact je_con pe_str fun _ _ => rfl
  · cases h
theorem glb_ok (O : XOk T ev s X c) {x : PySem.Str} {d : D} {pos : Pos} (h : ((x == x) && (glB s.sc x && (okName x && T.glb.any fun p => (p.1 == x) && D.beq p.2 d))) = true) : JE X c (.Name x pos) (fun _ M => rok d M) := by
  obtain ⟨_, h⟩ := and1 h
  obtain ⟨h1, h⟩ := and1 h
  obtain ⟨h2, h3⟩ := and1 h
  obtain ⟨p, hp, h4⟩ := List.any_eq_true.mp h3
  obtain ⟨h5, h6⟩ := and1 h4
  rw [beq_iff_eq] at h5
  have h6 := D.beq_eq _ _ h6
  obtain ⟨x', d'⟩ := p
  dsimp only at h5 h6
  subst h5; subst h6
  exact je_glb (gl_ok O h1) (O.hK ▸ O.tb.glb _ _ hp) (okName1 h2)
theorem tb_ok (O : XOk T ev s X c) {x y : PySem.Str} {kvs : List (PySem.Str × D)} (h : tbB T s x y kvs = true) : x = y ∧ Gl X x ∧ (x == ("__debug__" : PySem.Str)) = false ∧ TbKn X.K X.w X.mg x kvs := by
  unfold tbB at h
  obtain ⟨h0, h⟩ := and1 h
  obtain ⟨h1, h⟩ := and1 h
  obtain ⟨h2, h3⟩ := and1 h
  obtain ⟨p, hp, h4⟩ := List.any_eq_true.mp h3
  obtain ⟨h5, h6⟩ := and1 h4
  rw [beq_iff_eq] at h0 h5
  have h6 := kvB_eq h6
  obtain ⟨x', d'⟩ := p
  dsimp only at h5 h6
  subst h5; subst h6
  exact ⟨h0, gl_ok O h1, okName1 h2, O.tb.tb _ _ hp⟩
theorem tbk_ok (O : XOk T ev s X c) {x y : PySem.Str} {ks : List PySem.Str} (h : tbK T s x y ks = true) : x = y ∧ Gl X x ∧ (x == ("__debug__" : PySem.Str)) = false ∧ ∃ kvs, ks = kvs.map (·.1) ∧ TbKn X.K X.w X.mg x kvs := by
  unfold tbK at h
  obtain ⟨h0, h⟩ := and1 h
  obtain ⟨h1, h⟩ := and1 h
  obtain ⟨h2, h3⟩ := and1 h
  obtain ⟨p, hp, h4⟩ := List.any_eq_true.mp h3
  obtain ⟨h5, h6⟩ := and1 h4
  rw [beq_iff_eq] at h0 h5 h6
  obtain ⟨x', d'⟩ := p
  dsimp only at h5 h6
  subst h5; subst h6
  exact ⟨h0, gl_ok O h1, okName1 h2, d', rfl, O.tb.tb _ _ hp⟩
theorem few1 {a1 : Expr} {cpos : Pos} {env : Env} (h : noStar a1 = true) : ((backTo cpos (starEach [a1] env)).all (fun x => !x.1) && (backToKw cpos (keywordEach [] env)).all (fun x => x.1.isSome)
      && decide (([a1] : List Expr).length + ([] : List Keyword).length + (if ([] : List Keyword).isEmpty then 0 else 1) < 30)) = true := by
  rw [starEach_cons h]; rfl
theorem few2 {a1 a2 : Expr} {cpos : Pos} {env : Env} (h : noStar a1 = true) (h2 : noStar a2 = true) : ((backTo cpos (starEach [a1, a2] env)).all (fun x => !x.1) && (backToKw cpos (keywordEach [] env)).all (fun x => x.1.isSome)
      && decide (([a1, a2] : List Expr).length + ([] : List Keyword).length + (if ([] : List Keyword).isEmpty then 0 else 1) < 30)) = true := by
  rw [starEach_cons h, starEach_cons h2]; rfl
noncomputable def methF (p : Pr) (m : Bool) (f : Sl → Store → Rs D) (fs : List (Sl → Store → Rs D)) : Sl → Store → Rs D := fun δ M => bnd (f δ M) fun d M1 => if recv p M1 d = true then bnd (evL fs δ M1) fun ds M2 => po m M2 (prim p (d :: ds) M2) else none
theorem methF1 {p : Pr} {m : Bool} {f f1 : Sl → Store → Rs D} : methF p m f [f1] = fun δ M => bnd (f δ M) fun d M1 => if recv p M1 d = true then bnd (f1 δ M1) fun y M2 => po m M2 (prim p [d, y] M2) else none := by
  funext δ M
  simp [methF, evL, bnd_assoc]
theorem methF2 {p : Pr} {m : Bool} {f f1 f2 : Sl → Store → Rs D} : methF p m f [f1, f2] = fun δ M => bnd (f δ M) fun d M1 => if recv p M1 d = true then bnd (f1 δ M1) fun y M2 => bnd (f2 δ M2) fun z M3 => po m M3 (prim p [d, y, z] M3) else none := by
  funext δ M
  simp [methF, evL, bnd_assoc]
theorem meth_ok (O : XOk T ev s X c) {p : Pr} {m : Bool} {x : PySem.Str} {ao : Expr} {as : List Expr} {apos cpos : Pos} {f : Sl → Store → Rs D} {fs : List (Sl → Store → Rs D)} (h1 : noSup ao = true) (h2 : (apos.endLine == cpos.line) = true) (h3 : noStars as = true) (h4 : methOk p x as.length = true) (ho : JE X c ao f) (hj : JL X c as fs) :
    JE X c (.Call (.Attribute ao x apos) as [] cpos) (methF p m f fs) := by
  have hu := O.un
  have one : ∀ {b : PySem.Str}, ((x == b) && (as.length == 1)) = true → ∃ a1, as = [a1] ∧ x = b ∧ noStar a1 = true := fun {b} h => by
    obtain ⟨h5, h6⟩ := and1 h
    rw [beq_iff_eq] at h5 h6
    obtain ⟨a1, rfl⟩ := List.length_eq_one_iff.mp h6
    exact ⟨a1, rfl, h5, (and1 h3).1⟩
  unfold methOk at h4
  split at h4
  · obtain ⟨a1, rfl, rfl, hs⟩ := one h4
    obtain ⟨f1, rfl, hj1⟩ := hj.one
    rw [methF1]
    exact je_append O.hK ho hj1 (attrBase h1) (few1 hs) h2 (starEach_cons hs) rfl
  · obtain ⟨a1, rfl, rfl, hs⟩ := one h4
    obtain ⟨f1, rfl, hj1⟩ := hj.one
    rw [methF1]
    exact je_extend O.hK ho hj1 (attrBase h1) (few1 hs) h2 (starEach_cons hs) rfl
  · obtain ⟨a1, rfl, rfl, hs⟩ := one h4
    obtain ⟨f1, rfl, hj1⟩ := hj.one
    rw [methF1]
    exact je_get1 (by omega) ho hj1 ⟨attrBase h1, few1 hs, h2, by rw [starEach_cons hs]; rfl⟩
  · obtain ⟨a1, rfl, rfl, hs⟩ := one h4
    obtain ⟨f1, rfl, hj1⟩ := hj.one
    rw [methF1]
    exact je_count O.hK ho hj1 (attrBase h1) (few1 hs) h2 (starEach_cons hs) rfl
  · obtain ⟨a1, rfl, rfl, hs⟩ := one h4
    obtain ⟨f1, rfl, hj1⟩ := hj.one
    rw [methF1]
    exact je_index O.hK ho hj1 (attrBase h1) (few1 hs) h2 (starEach_cons hs) rfl
  · obtain ⟨h5, h6⟩ := and1 h4
    rw [beq_iff_eq] at h5 h6
    subst h5
    match as, h6 with
    | [a1, a2], _ =>
      obtain ⟨hs1, hs2⟩ := and1 h3
      have hs2 := (and1 hs2).1
      obtain ⟨f1, f2, rfl, hj1, hj2⟩ := hj.two
      rw [methF2]
      exact je_get2 (by omega) ho hj1 hj2 ⟨attrBase h1, few2 hs1 hs2, h2, by rw [starEach_cons hs1, starEach_cons hs2]; rfl⟩
  · cases h4
theorem itemsR_congr {f g : Sl → Store → Rs Items} {tg a : Expr} (h : JI X c tg a f) (e : f = g) : JI X c tg a g := e ▸ h
theorem rng_ok (O : XOk T ev s X c) {k : Ik} {x : PySem.Str} {atg : Expr} {as : List Expr} {p1 p2 : Pos} {fs : List (Sl → Store → Rs D)} (hg : glB s.sc x = true) (hb : T.bi.contains x = true) (hs : noStars as = true) (hr : rngOk k x as.length atg = true) (hj : JL X c as fs) :
    JI X c atg (.Call (.Name x p1) as [] p2) (fun δ M => bnd (evL fs δ M) fun ds M1 => itemsR k ds M1) := by
  have g := gl_ok O hg
  have b := bi_ok O hb
  have ja := hj.ja hs
  unfold rngOk at hr
  split at hr
  · cases hr
  · obtain ⟨h5, h6⟩ := and1 hr
    rw [beq_iff_eq] at h5 h6
    subst h5
    obtain ⟨a1, rfl⟩ := List.length_eq_one_iff.mp h6
    exact ji_rng1 g b ja (starEach_cons (and1 hs).1)
  · obtain ⟨h5, h6⟩ := and1 hr
    rw [beq_iff_eq] at h5 h6
    subst h5
    match as, h6 with
    | [a1, a2], _ =>
      obtain ⟨hs1, hs2⟩ := and1 hs
      have hs2 := (and1 hs2).1
      exact ji_rng2 g b ja (by rw [starEach_cons hs1, starEach_cons hs2]; rfl) (starEach_cons hs2)
  · obtain ⟨h5, h6⟩ := and1 hr
    rw [beq_iff_eq] at h5 h6
    subst h5
    match as, h6 with
    | [a1, a2, a3], _ =>
      obtain ⟨hs1, hs2⟩ := and1 hs
      exact ji_rng3 g b ja (starEach_cons hs1) (backTo_any hs2)
  · obtain ⟨h5, h6⟩ := and1 hr
    obtain ⟨h6, h7⟩ := and1 h6
    rw [beq_iff_eq] at h5 h6
    subst h5
    obtain ⟨a1, rfl⟩ := List.length_eq_one_iff.mp h6
    cases atg with
    | Tuple elts kk tpos => exact ji_enum O.hK g b ja (starEach_cons (and1 hs).1)
    | _ => cases h7
  · obtain ⟨h5, h6⟩ := and1 hr
    rw [beq_iff_eq] at h5 h6
    subst h5
    obtain ⟨a1, rfl⟩ := List.length_eq_one_iff.mp h6
    exact ji_rev O.hK g b ja (starEach_cons (and1 hs).1)
  · cases hr
  · cases hr
end
theorem all_mem {S : List Nat} {own : List (PySem.Str × Nat)} (h : (S.all fun i => (own.map (·.2)).contains i) = true) : ∀ i ∈ S, i ∈ own.map (·.2) := fun i hi => by
  have := List.all_eq_true.mp h i hi
  simpa using this
/-- a comparison chain's end is a bool -/
theorem chF_bl {p q : Pr} {f1 f2 f3 : Sl → Store → Rs D} (hq : isCmp q = true) : BlF (chF (prim p) (prim q) f1 f2 f3) := fun δ M d M' e => by
  unfold chF at e
  cases q1 : f1 δ M with
  | none => rw [q1] at e; cases e
  | some o =>
    rw [q1] at e
    cases o with
    | exc _ _ => cases e
    | ok d1 M1 =>
      rw [bnd_ok] at e
      cases q2 : f2 δ M1 with
      | none => rw [q2] at e; cases e
      | some o =>
        rw [q2] at e
        cases o with
        | exc _ _ => cases e
        | ok d2 M2 =>
          rw [bnd_ok] at e
          split at e
          · rename_i M3 _
            cases q3 : f3 δ M3 with
            | none => rw [q3] at e; cases e
            | some o =>
              rw [q3] at e
              cases o with
              | exc _ _ => cases e
              | ok d3 M4 =>
                rw [bnd_ok] at e
                split at e
                · rename_i d4 M5 h5
                  obtain ⟨b, M6, eb⟩ := cmp_bl hq _ _ _ h5
                  cases eb
                  cases e
                  exact ⟨b, rfl⟩
                · cases e
          · cases e; exact ⟨_, rfl⟩
          · cases e
theorem chain_split {T : Tb} {ev : Ev} {s : Sx} {X : Cx} {c : Cf} (O : XOk T ev s X c) {o1 o2 : CmpOp} {a1 a2 a3 : Expr} {f1 f2 f3 : Sl → Store → Rs D} {pos : Pos} (hm : isSet a3 = false) (h1 : JE X c a1 f1) (h2 : JE X c a2 f2) (h3 : JE X c a3 f3) :
    JE X c (.Compare a1 [o1, o2] [a2, a3] pos) (chF (prim (cmpP o1)) (prim (cmpP o2)) f1 f2 f3) ∧ JT X c (.Compare a1 [o1, o2] [a2, a3] pos) (tst (chF (prim (cmpP o1)) (prim (cmpP o2)) f1 f2 f3)) := by
  obtain ⟨r, ho, ok⟩ := cmpR_ok O o1
  obtain ⟨r', ho', ok'⟩ := cmpR_ok O o2
  exact ⟨je_chain ho ho' ok ok' h1 h2 h3 (lastMarks_no hm), jt_chain ho ho' ok ok' h1 h2 h3 (lastMarks_no hm) (chF_bl (isCmp_of (.inl rfl)))⟩
end Mo
/-! Mo14: what is checked holds. -/
namespace Mo
open PySem PySem.Spec L2
open PyProof.Rows hiding St

section
variable {X : Cx} {c : Cf}
theorem jg_eq {a : Expr} {S : List Nat} {f g : D → Sl → Store → Rs Sl} (h : JG X c a S f) (e : f = g) : JG X c a S g := e ▸ h
theorem jgs_eq {as : List Expr} {S : List Nat} {f g : List D → Sl → Store → Rs Sl} (h : JGs X c as S f) (e : f = g) : JGs X c as S g := e ▸ h
theorem ex_items (ev : Ev) (e : E) (k : Ik) : (fun δ M => bnd (evEs ev (.cons e .nil) δ M) fun ds M1 => itemsR k ds M1) = fun δ M => bnd (evE ev e δ M) fun d M1 => itemsR k [d] M1 := by
  funext δ M
  simp [evEs, bnd_assoc]
theorem ifs_nil (ev : Ev) : ∀ σ H Q, tG c.g c.cx WF RB (evIfs ev .nil) σ H Q → tYes σ H Q := fun σ H Q ⟨W, δ, M, p, r⟩ => by
  rw [evIfs] at r
  exact r.done p.sr rfl
theorem ifs_one (ev : Ev) (e : E) : evIfs ev (.cons e .nil) = tst (evE ev e) := by
  funext δ M
  rw [evIfs]
  unfold tst
  congr 1
  funext d M1
  cases truth M1 d with
  | none => rfl
  | some b => cases b <;> simp [evIfs]
end
theorem evLD_eq : ∀ (fs : List (Sl → Store → Rs D)) (δ : Sl) (M : Store), evLD fs δ M = evL fs δ M
  | [], _, _ => rfl
  | f :: fs, δ, M => by
    unfold evLD evL
    congr 1
    funext d M1
    rw [evLD_eq fs]
theorem bnd2_non (ev : Ev) (e1 : E) (δ : Sl) (M : Store) (C : List D → Store → Rs D) (d : D) : (bnd (evL [evE ev e1] δ M) fun ds M2 => C (d :: (ds ++ [.non])) M2) = bnd (evL ((Es.cons e1 (.cons (.lit .non) .nil)).fs ev) δ M) fun ds M2 => C (d :: ds) M2 := by
  have e0 : evE ev (.lit .non) = fun δ M => rok .non M := by funext δ M; rw [evE]
  show (bnd (bnd (evE ev e1 δ M) fun d M1 => bnd (evL [] δ M1) fun ds M2 => rok (d :: ds) M2) fun ds M2 => C (d :: (ds ++ [.non])) M2) = bnd (bnd (evE ev e1 δ M) fun d M1 => bnd (bnd (evE ev (.lit .non) δ M1) fun d M1 => bnd (evL [] δ M1) fun ds M2 => rok (d :: ds) M2) fun ds M2 => rok (d :: ds) M2) fun ds M2 => C (d :: ds) M2
  rw [e0]
  cases evE ev e1 δ M with
  | none => rfl
  | some o => cases o <;> rfl
theorem bnd2_two (ev : Ev) (e1 e2 : E) (δ : Sl) (M : Store) (C : List D → Store → Rs D) (d : D) : (bnd (evL [evE ev e1] δ M) fun ds M2 => bnd (evE ev e2 δ M2) fun d2 M3 => C (d :: (ds ++ [d2])) M3) = bnd (evL ((Es.cons e1 (.cons e2 .nil)).fs ev) δ M) fun ds M2 => C (d :: ds) M2 := by
  show (bnd (bnd (evE ev e1 δ M) fun d M1 => bnd (evL [] δ M1) fun ds M2 => rok (d :: ds) M2) fun ds M2 => bnd (evE ev e2 δ M2) fun d2 M3 => C (d :: (ds ++ [d2])) M3) = bnd (bnd (evE ev e1 δ M) fun d M1 => bnd (bnd (evE ev e2 δ M1) fun d M1 => bnd (evL [] δ M1) fun ds M2 => rok (d :: ds) M2) fun ds M2 => rok (d :: ds) M2) fun ds M2 => C (d :: ds) M2
  cases evE ev e1 δ M with
  | none => rfl
  | some o =>
    cases o with
    | exc x N => rfl
    | ok a N =>
      show (bnd (evE ev e2 δ N) fun d2 M3 => C (d :: ([a] ++ [d2])) M3) = bnd (bnd (bnd (evE ev e2 δ N) fun d M1 => rok [d] M1) fun ds M2 => rok (a :: ds) M2) fun ds M2 => C (d :: ds) M2
      cases evE ev e2 δ N with
      | none => rfl
      | some o => cases o <;> rfl
mutual
theorem sndE {T : Tb} {ev : Ev} : ∀ (e : E) {s : Sx} {X : Cx} {c : Cf} {a : Expr}, XOk T ev s X c → chkE T s e a = true → JE X c a (evE ev e)
  | .var i, s, X, c, a, O, h => by
    unfold chkE at h
    split at h
    · obtain ⟨h1, h⟩ := and1 h
      obtain ⟨h2, h3⟩ := and1 h
      exact je_eq (je_var (slot_ok O h1) (vis_ok O h2) (okName1 h3) (okName2 h3)) (by funext δ M; rw [evE] <;> rfl)
    · cases h
  | .lit d, s, X, c, a, O, h => by
    unfold chkE at h
    split at h
    · exact je_eq (lit_ok h) (by funext δ M; rw [evE])
    · cases h
  | .glb x d, s, X, c, a, O, h => by
    unfold chkE at h
    split at h
    · have e := beq_iff_eq.mp (and1 h).1
      subst e
      exact je_eq (glb_ok O h) (by funext δ M; rw [evE])
    · cases h
  | .op p m es, s, X, c, a, O, h => by
    unfold chkE at h
    split at h
    · rename_i as ha
      exact je_eq (opA_ok (m := m) O ha (sndL es O h)) (by funext δ M; rw [evE, evEs_eq]; rfl)
    · cases h
  | .tup es, s, X, c, a, O, h => by
    unfold chkE at h
    split at h
    · obtain ⟨h1, h2⟩ := and1 h
      exact je_eq (je_tup ((sndL es O h2).ja h1)) (by funext δ M; rw [evE, evEs_eq])
    · cases h
  | .lst m es, s, X, c, a, O, h => by
    unfold chkE at h
    split at h
    · obtain ⟨h1, h2⟩ := and1 h
      exact je_eq (je_lst (m := m) ((sndL es O h2).ja h1)) (by funext δ M; rw [evE, evEs_eq])
    · cases h
  | .andE e1 e2, s, X, c, a, O, h => by
    unfold chkE at h
    split at h
    · rename_i a b r pos
      obtain ⟨h1, h2⟩ := and1 h
      refine je_eq (f := fun δ M => bnd (evE ev e1 δ M) fun d M1 => match truth M1 d with
        | some true => evE ev e2 δ M1
        | some false => rok d M1
        | none => none) ?_ (by funext δ M; rw [evE] <;> rfl)
      cases r with
      | nil => exact je_and O.hK (sndE e1 O h1) (pe_one (sndE e2 O h2))
      | cons d r => exact je_and O.hK (sndE e1 O h1) (sndE e2 O h2)
    · cases h
  | .orE e1 e2, s, X, c, a, O, h => by
    unfold chkE at h
    split at h
    · rename_i a b r pos
      obtain ⟨h1, h2⟩ := and1 h
      refine je_eq (f := fun δ M => bnd (evE ev e1 δ M) fun d M1 => match truth M1 d with
        | some true => rok d M1
        | some false => evE ev e2 δ M1
        | none => none) ?_ (by funext δ M; rw [evE] <;> rfl)
      cases r with
      | nil => exact je_or O.hK (sndE e1 O h1) (pe_one (sndE e2 O h2))
      | cons d r => exact je_or O.hK (sndE e1 O h1) (sndE e2 O h2)
    · cases h
  | .notE e1, s, X, c, a, O, h => by
    unfold chkE at h
    split at h
    · exact je_eq (je_not O.hK (sndE e1 O h)) (by funext δ M; rw [evE] <;> rfl)
    · cases h
  | .ite e0 e1 e2, s, X, c, a, O, h => by
    unfold chkE at h
    split at h
    · obtain ⟨h0, h⟩ := and1 h
      obtain ⟨h1, h⟩ := and1 h
      obtain ⟨h2, h3⟩ := and1 h
      exact je_eq (je_ite (sndT e0 O h0 h1) (sndE e1 O h2) (sndE e2 O h3)) (by funext δ M; rw [evE] <;> rfl)
    · cases h
  | .meth p m o es, s, X, c, a, O, h => by
    unfold chkE at h
    split at h
    · obtain ⟨h1, h⟩ := and1 h
      obtain ⟨h2, h⟩ := and1 h
      obtain ⟨h3, h⟩ := and1 h
      obtain ⟨h4, h⟩ := and1 h
      obtain ⟨h5, h6⟩ := and1 h
      exact je_eq (meth_ok (m := m) O h1 h2 h3 h4 (sndE o O h5) (sndL es O h6)) (by funext δ M; rw [evE]; simp only [evEs_eq]; rfl)
    · cases h
  | .call f es, s, X, c, a, O, h => by
    unfold chkE at h
    split at h
    · rename_i x p1 as p2
      obtain ⟨h0, h⟩ := and1 h
      split at h
      · rename_i y n k hf
        obtain ⟨h1, h⟩ := and1 h
        obtain ⟨h2, h⟩ := and1 h
        obtain ⟨h3, h⟩ := and1 h
        obtain ⟨h4, h⟩ := and1 h
        obtain ⟨h5, h6⟩ := and1 h
        rw [beq_iff_eq] at h1
        subst h1
        obtain ⟨C, e1, F⟩ := O.tb.fn _ _ _ _ hf
        have hr := (O.room h0).mono (of_decide_eq_true h4)
        have L := sndL es O h6
        refine je_eq (f := fun δ M => bnd (evL (es.fs ev) δ M) fun ds M1 => arC n C ds M1) ?_ (by funext δ M; rw [evE, evEs_eq, e1])
        cases as with
        | nil =>
          have e0 : es.fs ev = [] := List.length_eq_zero_iff.mp (L.length.trans rfl)
          rw [e0]
          exact je_call0 F hr (gl_ok O h2) O.tk (okName1 h3)
        | cons a as =>
          have h5' := h5
          unfold noStars at h5'
          exact je_call F hr (gl_ok O h2) O.tk (L.ja h5) (okName1 h3) (starEach_cons (and1 h5').1) (backTo_any (and1 h5').2)
      · cases h
    · cases h
  | .mcall cl f m o es, s, X, c, a, O, h => by
    unfold chkE at h
    split at h
    · rename_i c' m' k kw hf
      replace h := and1 h
      obtain ⟨h0, h⟩ := h
      replace h := and1 h
      obtain ⟨h7, h⟩ := h
      replace h := and1 h
      obtain ⟨h8, h⟩ := h
      replace h := and1 h
      obtain ⟨h10, h⟩ := h
      rw [beq_iff_eq] at h7 h8
      subst h7
      subst h8
      obtain ⟨C, eC, F⟩ := O.tb.mw _ _ _ _ _ hf
      have hr := (O.room h0).mono (of_decide_eq_true h10)
      split at h
      · rename_i e1 e2
        split at h
        · rename_i ao x apos a1 cpos
          replace h := and1 h
          obtain ⟨h1, h⟩ := h
          replace h := and1 h
          obtain ⟨h2, h⟩ := h
          replace h := and1 h
          obtain ⟨h3, h⟩ := h
          replace h := and1 h
          obtain ⟨h5, h⟩ := h
          replace h := and1 h
          obtain ⟨h6, h⟩ := h
          obtain ⟨h9, h11⟩ := and1 h
          rw [beq_iff_eq] at h11
          subst h11
          obtain rfl := isNonE_ok h9
          have ho := sndE o O h5
          have L : JL X c [a1] [evE ev e1] := .cons (sndE e1 O h6) .nil
          have h3' := h3
          unfold noStars at h3'
          refine je_eq (f := fun δ M => bnd (evE ev o δ M) fun d M1 => match d with
            | .oid i => match M1[i]? with
              | some (.ins c' fl) => if c' = cl ∧ fl.lookup m = none then bnd (evL ((Es.cons e1 (.cons (.lit .non) .nil)).fs ev) δ M1) fun ds M2 => arC 3 C (.oid i :: ds) M2 else none
              | _ => none
            | _ => none) ?_ (by funext δ M; rw [evE] <;> simp only [evEs_eq, eC] <;> rfl)
          have J := je_mcallD F hr O.tk ho (L.ja h3) (starEach_cons (and1 h3').1) (backTo_any (and1 h3').2) (mcall_ok (pos := cpos) h1 h3 (show 1 < 30 by decide) h2)
          simp only [bnd2_non] at J
          exact J
        · rename_i ao x apos a1 y a2 kpos cpos
          replace h := and1 h
          obtain ⟨h1, h⟩ := h
          replace h := and1 h
          obtain ⟨h2, h⟩ := h
          replace h := and1 h
          obtain ⟨h3, h⟩ := h
          replace h := and1 h
          obtain ⟨h5, h⟩ := h
          replace h := and1 h
          obtain ⟨h6, h⟩ := h
          replace h := and1 h
          obtain ⟨h9, h⟩ := h
          obtain ⟨h11, h12⟩ := and1 h
          rw [beq_iff_eq] at h11 h12
          subst h11
          subst h12
          have ho := sndE o O h5
          have L : JL X c [a1] [evE ev e1] := .cons (sndE e1 O h6) .nil
          have hb := sndE e2 O h9
          have h3' := h3
          unfold noStars at h3'
          refine je_eq (f := fun δ M => bnd (evE ev o δ M) fun d M1 => match d with
            | .oid i => match M1[i]? with
              | some (.ins c' fl) => if c' = cl ∧ fl.lookup m = none then bnd (evL ((Es.cons e1 (.cons e2 .nil)).fs ev) δ M1) fun ds M2 => arC 3 C (.oid i :: ds) M2 else none
              | _ => none
            | _ => none) ?_ (by funext δ M; rw [evE] <;> simp only [evEs_eq, eC] <;> rfl)
          have J := je_mcallW F hr O.tk ho (L.ja h3) hb (starEach_cons (and1 h3').1) (mcall_okW (pos := cpos) (kpos := kpos) h1 h3 (show 1 + 1 + 1 < 30 by decide) h2)
          simp only [bnd2_two] at J
          exact J
        · cases h
      · cases h
    · split at h
      · rename_i ao x apos as cpos
        obtain ⟨h0, h⟩ := and1 h
        obtain ⟨h1, h⟩ := and1 h
        obtain ⟨h2, h⟩ := and1 h
        obtain ⟨h3, h⟩ := and1 h
        obtain ⟨h4, h⟩ := and1 h
        obtain ⟨h5, h⟩ := and1 h
        obtain ⟨h6, h⟩ := and1 h
        split at h
        · rename_i c' m' n k hf
          obtain ⟨h7, h⟩ := and1 h
          obtain ⟨h8, h⟩ := and1 h
          obtain ⟨h9, h10⟩ := and1 h
          rw [beq_iff_eq] at h7 h8 h9
          subst h7
          subst h8
          subst h9
          obtain ⟨C, e1, F⟩ := O.tb.mt _ _ _ _ _ hf
          have hr := (O.room h0).mono (of_decide_eq_true h10)
          have L := sndL es O h6
          have ho := sndE o O h5
          refine je_eq (f := fun δ M => bnd (evE ev o δ M) fun d M1 => match d with
            | .oid i => match M1[i]? with
              | some (.ins c' fl) => if c' = cl ∧ fl.lookup m = none then bnd (evL (es.fs ev) δ M1) fun ds M2 => arC n C (.oid i :: ds) M2 else none
              | _ => none
            | _ => none) ?_ (by funext δ M; rw [evE] <;> simp only [evEs_eq, e1] <;> rfl)
          cases as with
          | nil =>
            have e0 : es.fs ev = [] := List.length_eq_zero_iff.mp (L.length.trans rfl)
            rw [e0]
            exact je_mcall0 F hr O.tk ho (mcall_ok h1 h3 (of_decide_eq_true h4) h2)
          | cons a as =>
            have h3' := h3
            unfold noStars at h3'
            exact je_mcall F hr O.tk ho (L.ja h3) (starEach_cons (and1 h3').1) (backTo_any (and1 h3').2) (mcall_ok h1 h3 (of_decide_eq_true h4) h2)
        · cases h
      · cases h
  | .prop cl f o, s, X, c, a, O, h => by
    unfold chkE at h
    split at h
    · obtain ⟨h0, h⟩ := and1 h
      obtain ⟨h1, h⟩ := and1 h
      obtain ⟨h2, h⟩ := and1 h
      split at h
      · rename_i c' m k hf
        obtain ⟨h3, h⟩ := and1 h
        obtain ⟨h4, h5⟩ := and1 h
        rw [beq_iff_eq] at h3 h4
        subst h3
        subst h4
        obtain ⟨C, e1, F⟩ := O.tb.pr _ _ _ _ hf
        exact je_eq (je_prop F ((O.room h0).mono (of_decide_eq_true h5)) (sndE o O h2) (attrBase h1)) (by funext δ M; rw [evE] <;> simp only [e1] <;> rfl)
      · cases h
    · cases h
  | .make cl f es, s, X, c, a, O, h => by
    unfold chkE at h
    split at h
    · rename_i x p1 as p2
      obtain ⟨h0, h⟩ := and1 h
      split at h
      · rename_i y c' n k hf
        obtain ⟨h1, h⟩ := and1 h
        obtain ⟨hc, h⟩ := and1 h
        obtain ⟨h2, h⟩ := and1 h
        obtain ⟨h3, h⟩ := and1 h
        obtain ⟨h4, h⟩ := and1 h
        obtain ⟨h5, h6⟩ := and1 h
        rw [beq_iff_eq] at h1 hc
        subst h1
        subst hc
        obtain ⟨C, e1, F⟩ := O.tb.mk_ _ _ _ _ _ hf
        have hr := (O.room h0).mono (of_decide_eq_true h4)
        have L := sndL es O h6
        refine je_eq (f := fun δ M => bnd (evL (es.fs ev) δ M) fun ds M1 => bnd (arC n C (.oid M1.length :: ds) (M1 ++ [.ins cl []])) fun d M2 => match d with
          | .non => rok (.oid M1.length) M2
          | _ => none) ?_ (by funext δ M; rw [evE] <;> simp only [evEs_eq, e1] <;> rfl)
        cases as with
        | nil =>
          have e0 : es.fs ev = [] := List.length_eq_zero_iff.mp (L.length.trans rfl)
          rw [e0]
          exact je_make0 F hr (gl_ok O h2) O.tk (okName1 h3)
        | cons a as =>
          have h5' := h5
          unfold noStars at h5'
          exact je_make F hr (gl_ok O h2) O.tk (L.ja h5) (okName1 h3) (starEach_cons (and1 h5').1) (backTo_any (and1 h5').2)
      · cases h
    · cases h
  | .sl3 m e1 e2 e3, s, X, c, a, O, h => by
    unfold chkE at h
    split at h
    · obtain ⟨h1, h⟩ := and1 h
      obtain ⟨h2, h3⟩ := and1 h
      exact je_eq (je_sl3 (m := m) O.hK (sndE e1 O h1) (sndE e2 O h2) (sndE e3 O h3)) (by funext δ M; rw [evE] <;> rfl)
    · cases h
  | .fld cl e f, s, X, c, a, O, h => by
    unfold chkE at h
    split at h
    · obtain ⟨h1, h⟩ := and1 h
      obtain ⟨h2, h⟩ := and1 h
      obtain ⟨h3, h4⟩ := and1 h
      rw [beq_iff_eq] at h2
      subst h2
      obtain ⟨n1, n2⟩ := O.tb.na cl f (by simpa using h3)
      exact je_eq (je_fld n1 n2 (sndE e O h4) (attrBase h1)) (by funext δ M; rw [evE] <;> rfl)
    · cases h
  | .tab q x kvs e d, s, X, c, a, O, h => by
    unfold chkE at h
    split at h
    · split at h
      · obtain ⟨h1, h2⟩ := and1 h
        obtain ⟨rfl, hg, hd, T⟩ := tb_ok O h1
        exact je_eq (je_c (jc_has hg hd T (sndE e O h2)) (behind_no rfl)) (by funext δ M; rw [evE] <;> rfl)
      · cases h
    · split at h
      · obtain ⟨h1, h2⟩ := and1 h
        obtain ⟨rfl, hg, hd, T⟩ := tb_ok O h1
        exact je_eq (je_c (jc_hasnt hg hd T (sndE e O h2)) (behind_no rfl)) (by funext δ M; rw [evE] <;> rfl)
      · cases h
    · split at h
      · obtain ⟨h1, h⟩ := and1 h
        obtain ⟨h2, h3⟩ := and1 h
        obtain ⟨rfl, hg, hd, T⟩ := tb_ok O h1
        exact je_eq (je_titem hg hd O.hK T (noSl_ok (by simpa using h2)) (sndE e O h3)) (by funext δ M; rw [evE] <;> rfl)
      · cases h
    · split at h
      · obtain ⟨h1, h⟩ := and1 h
        obtain ⟨h2, h⟩ := and1 h
        obtain ⟨h3, h⟩ := and1 h
        obtain ⟨h4, h5⟩ := and1 h
        obtain ⟨rfl, hg, hd, T⟩ := tb_ok O h1
        rw [beq_iff_eq] at h2
        subst h2
        exact je_eq (je_tget1 hg hd O.hK T (sndE e O h5) ⟨attrBase rfl, few1 h4, h3, by rw [starEach_cons h4]; rfl⟩) (by funext δ M; rw [evE] <;> rfl)
      · cases h
    · split at h
      · obtain ⟨h1, h⟩ := and1 h
        obtain ⟨h2, h⟩ := and1 h
        obtain ⟨h3, h⟩ := and1 h
        obtain ⟨h4, h⟩ := and1 h
        obtain ⟨h5, h⟩ := and1 h
        obtain ⟨h6, h7⟩ := and1 h
        obtain ⟨rfl, hg, hd, T⟩ := tb_ok O h1
        rw [beq_iff_eq] at h2
        subst h2
        exact je_eq (je_tget2 hg hd O.hK T (sndE e O h6) (sndE d O h7) ⟨attrBase rfl, few2 h4 h5, h3, by rw [starEach_cons h4, starEach_cons h5]; rfl⟩) (by funext δ M; rw [evE] <;> rfl)
      · cases h
  | .xis i hh, s, X, c, a, O, h => by
    unfold chkE at h
    split at h
    · rename_i w p1 x p2 y p3 p4
      replace h := and1 h
      obtain ⟨h1, h⟩ := h
      replace h := and1 h
      obtain ⟨h2, h⟩ := h
      replace h := and1 h
      obtain ⟨h3, h⟩ := h
      replace h := and1 h
      obtain ⟨h4, h⟩ := h
      replace h := and1 h
      obtain ⟨h5, h⟩ := h
      replace h := and1 h
      obtain ⟨h6, h⟩ := h
      replace h := and1 h
      obtain ⟨h7, h⟩ := h
      replace h := and1 h
      obtain ⟨h8, h⟩ := h
      replace h := and1 h
      obtain ⟨h9, h⟩ := h
      replace h := and1 h
      obtain ⟨h10, h⟩ := h
      rw [beq_iff_eq] at h1 h6
      subst h6
      split at h
      · rename_i z ks k hz0
        rw [beq_iff_eq] at h
        subst h
        have hlh : hh < T.exs.length := (List.getElem?_eq_some_iff.mp hz0).1
        have gC : X.mg z = some (.ref (c.g.ca hh)) := by
          cases ks with
          | nil => exact (O.tb.ex0 hh z k hz0).gC
          | cons f fs => exact (O.tb.exI hh z f fs k hz0).gC
        obtain ⟨x0, e1, Y, a, oe, cls, dd, pn, hX, hcx, ecl, hz, hf, hlt⟩ := O.cu i h1
        refine je_eq (je_xis (h := hh) hX hcx ecl O.hK (O.tb.xf _ hlt) (O.tb.xi h5 _ hlt) O.tb.tab hlt hlh hz hf (slot_ok O h2) (vis_ok O h3) (okName1 h4) (okName2 h4) (gl_ok O h7) (bi_ok O h8) (gl_ok O h9) gC (okName1 h10)) ?_
        funext δ M
        rw [evE, e1]
        cases δ[i]? with
        | none => rfl
        | some o =>
          cases o with
          | none => rfl
          | some d => cases d <;> first | rfl | (simp only [true_and] <;> rfl)
      · cases h
    · cases h
  | .xfld i f, s, X, c, a, O, h => by
    unfold chkE at h
    split at h
    · obtain ⟨h1, h⟩ := and1 h
      obtain ⟨h2, h⟩ := and1 h
      obtain ⟨h3, h⟩ := and1 h
      obtain ⟨h4, h⟩ := and1 h
      obtain ⟨h5, h6⟩ := and1 h
      rw [beq_iff_eq] at h1 h3
      subst h3
      obtain ⟨x, e1, Y, a, oe, cls, dd, pn, hX, hcx, ecl, hz, hf, hlt⟩ := O.cu i h1
      refine je_eq (je_xfld hX hcx ecl (O.tb.xf _ hlt) (O.tb.xm _ f hlt (by simpa using h6)) hz hf (slot_ok O h2) (vis_ok O h4) (okName1 h5) (okName2 h5) (attrBase rfl)) ?_
      funext δ M
      rw [evE, e1]
      cases δ[i]? with
      | none => rfl
      | some o =>
        cases o with
        | none => rfl
        | some d => cases d <;> first | rfl | (simp only [if_true] <;> rfl)
    · cases h
  | .chain p q e1 e2 e3, s, X, c, a, O, h => by
    unfold chkE at h
    split at h
    · obtain ⟨h1, h⟩ := and1 h
      obtain ⟨h2, h⟩ := and1 h
      obtain ⟨h3, h⟩ := and1 h
      obtain ⟨h4, h⟩ := and1 h
      obtain ⟨h5, h6⟩ := and1 h
      rw [beq_iff_eq] at h1 h2
      subst h1
      subst h2
      exact je_eq (chain_split O (by simpa using h3) (sndE e1 O h4) (sndE e2 O h5) (sndE e3 O h6)).1 (by funext δ M; rw [evE] <;> rfl)
    · cases h
  | .frz e, s, X, c, a, O, h => by
    unfold chkE at h
    exact je_eq (je_frz (sndE e O h)) (by funext δ M; rw [evE] <;> rfl)
  | .newD t, s, X, c, a, O, h => by
    unfold chkE at h
    split at h
    · cases t with
      | true => exact je_eq je_newT (by funext δ M; rw [evE] <;> rfl)
      | false => exact je_eq je_newK (by funext δ M; rw [evE] <;> rfl)
    · cases h
  | .disp es, s, X, c, a, O, h => by
    unfold chkE at h
    split at h
    · rename_i keys values dpos
      obtain ⟨h1, h⟩ := and1 h
      obtain ⟨h2, h3⟩ := and1 h
      obtain ⟨trs, hd⟩ := sndPs es (pos := dpos) O h3
      exact je_eq (je_disp hd (by intro z; rw [z] at h2; cases h2) (of_decide_eq_true h1)) (by funext δ M; rw [evE, evEs_eq, ← evLD_eq] <;> rfl)
    · cases h
  | .comp m own elt t k es ifs, s, X, c, a, O, h => by
    unfold chkE at h
    split at h
    · obtain ⟨hz, h⟩ := and1 h
      obtain ⟨h0, h⟩ := and1 h
      obtain ⟨h1, h⟩ := and1 h
      obtain ⟨h2, h⟩ := and1 h
      obtain ⟨hS, h⟩ := and1 h
      obtain ⟨h3, h⟩ := and1 h
      obtain ⟨h4, h⟩ := and1 h
      obtain ⟨h5, h6⟩ := and1 h
      rw [beq_iff_eq] at hz
      subst hz
      have ok := blkOk_ok h1
      rw [← O.N, ← O.sc] at ok
      have hN : X.N.Nodup := O.N ▸ O.nd
      have hs := folded_no (env := X.env) (by simpa using hS)
      refine je_eq (f := compF m own (fun δ M => bnd (evEs ev es δ M) fun ds M1 => itemsR k ds M1) (evTg ev t) (evIfs ev ifs) (evE ev elt)) ?_ (by funext δ M; rw [evE] <;> rfl)
      cases ifs with
      | nil =>
        have e0 := List.isEmpty_iff.mp h6
        subst e0
        exact PE.imp (pe_lc (O.calm h0) hN (sndI es O h3) ok (fun s H C cl fp => sndG t (O.blk _ s H C cl fp) h4) (fun _ _ _ _ _ => PTs.imp pts_nil (ifs_nil ev)) (fun s H C cl fp => sndE elt (O.blk _ s H C cl fp) h5) hs)
          (comp_t (all_mem h2) c.Wx)
      | cons e1 r =>
        cases r with
        | cons _ _ => cases h6
        | nil =>
          dsimp only at h6
          split at h6
          · obtain ⟨h7, h8⟩ := and1 h6
            exact PE.imp (pe_lc (O.calm h0) hN (sndI es O h3) ok (fun s H C cl fp => sndG t (O.blk _ s H C cl fp) h4) (fun s H C cl fp => pts_one (ifs_one ev e1 ▸ sndT e1 (O.blk _ s H C cl fp) h7 h8)) (fun s H C cl fp => sndE elt (O.blk _ s H C cl fp) h5) hs)
              (comp_t (all_mem h2) c.Wx)
          · cases h6
    · cases h
  | .dcomp own kx vx t k es ifs, s, X, c, a, O, h => by
    unfold chkE at h
    split at h
    · obtain ⟨hz, h⟩ := and1 h
      obtain ⟨h0, h⟩ := and1 h
      obtain ⟨h1, h⟩ := and1 h
      obtain ⟨h2, h⟩ := and1 h
      obtain ⟨hS, h⟩ := and1 h
      obtain ⟨h3, h⟩ := and1 h
      obtain ⟨h4, h⟩ := and1 h
      obtain ⟨h50, h⟩ := and1 h
      obtain ⟨h5, h6⟩ := and1 h
      rw [beq_iff_eq] at hz
      subst hz
      have ok := blkOk_ok h1
      rw [← O.N, ← O.sc] at ok
      have hN : X.N.Nodup := O.N ▸ O.nd
      have hs := folded_no (env := X.env) (by simpa using hS)
      refine je_eq (f := dcompF own (fun δ M => bnd (evEs ev es δ M) fun ds M1 => itemsR k ds M1) (evTg ev t) (evIfs ev ifs) (evE ev kx) (evE ev vx)) ?_ (by funext δ M; rw [evE] <;> rfl)
      cases ifs with
      | nil =>
        have e0 := List.isEmpty_iff.mp h6
        subst e0
        exact PE.imp (pe_dc (O.calm h0) hN (sndI es O h3) ok (fun s H C cl fp => sndG t (O.blk _ s H C cl fp) h4) (fun _ _ _ _ _ => PTs.imp pts_nil (ifs_nil ev)) (fun s H C cl fp => sndE kx (O.blk _ s H C cl fp) h50) (fun s H C cl fp => sndE vx (O.blk _ s H C cl fp) h5) hs)
          (dcomp_t (all_mem h2) c.Wx)
      | cons e1 r =>
        cases r with
        | cons _ _ => cases h6
        | nil =>
          dsimp only at h6
          split at h6
          · obtain ⟨h7, h8⟩ := and1 h6
            exact PE.imp (pe_dc (O.calm h0) hN (sndI es O h3) ok (fun s H C cl fp => sndG t (O.blk _ s H C cl fp) h4) (fun s H C cl fp => pts_one (ifs_one ev e1 ▸ sndT e1 (O.blk _ s H C cl fp) h7 h8)) (fun s H C cl fp => sndE kx (O.blk _ s H C cl fp) h50) (fun s H C cl fp => sndE vx (O.blk _ s H C cl fp) h5) hs)
              (dcomp_t (all_mem h2) c.Wx)
          · cases h6
    · cases h
  | .comp2 m own elt t k es t2 k2 es2, s, X, c, a, O, h => by
    unfold chkE at h
    split at h
    · obtain ⟨hz, h⟩ := and1 h
      obtain ⟨hz2, h⟩ := and1 h
      obtain ⟨h0, h⟩ := and1 h
      obtain ⟨h1, h⟩ := and1 h
      obtain ⟨h2, h⟩ := and1 h
      obtain ⟨h22, h⟩ := and1 h
      obtain ⟨hS, h⟩ := and1 h
      obtain ⟨hS2, h⟩ := and1 h
      obtain ⟨h3, h⟩ := and1 h
      obtain ⟨h4, h⟩ := and1 h
      obtain ⟨h5, h⟩ := and1 h
      obtain ⟨h6, h7⟩ := and1 h
      rw [beq_iff_eq] at hz hz2
      subst hz
      subst hz2
      have ok := blkOk_ok h1
      rw [← O.N, ← O.sc] at ok
      have hN : X.N.Nodup := O.N ▸ O.nd
      have hs := folded_no (env := X.env) (by simpa using hS)
      refine je_eq (f := comp2F m own (fun δ M => bnd (evEs ev es δ M) fun ds M1 => itemsR k ds M1) (evTg ev t) (fun δ M => bnd (evEs ev es2 δ M) fun ds M1 => itemsR k2 ds M1) t2.slots (evTg ev t2) (evE ev elt)) ?_ (by funext δ M; rw [evE] <;> rfl)
      exact PE.imp (pe_lc2 (O.calm h0) hN (sndI es O h3) ok (all_mem h22) (fun s H C cl fp => sndG t (O.blk _ s H C cl fp) h4) (fun _ _ _ _ _ => pts_nil)
        (fun s H C cl fp => sndI es2 (O.blk _ s H C cl fp) h5) (fun s H C cl fp => sndG t2 (O.blk _ s H C cl fp) h6) (fun _ _ _ _ _ => pts_nil) (fun s H C cl fp => sndE elt (O.blk _ s H C cl fp) h7) hs (fun env => folded_no (by simpa using hS2)))
        (comp2_t (all_mem h2) c.Wx)
    · cases h
theorem sndT {T : Tb} {ev : Ev} : ∀ (e : E) {s : Sx} {X : Cx} {c : Cf} {a : Expr}, XOk T ev s X c → e.tOk = true → chkE T s e a = true → JT X c a (tst (evE ev e))
  | .op p m es, s, X, c, a, O, ht, h => by
    unfold chkE at h
    split at h
    · rename_i as ha
      exact tst_eq (opT_ok (m := m) O ha (sndL es O h)) (by funext δ M; rw [evE, evEs_eq]; rfl)
    · cases h
  | .andE e1 e2, s, X, c, a, O, ht, h => by
    obtain ⟨t1, t2⟩ := and1 (show (e1.tOk && e2.tOk) = true from ht)
    unfold chkE at h
    split at h
    · rename_i a b r pos
      obtain ⟨h1, h2⟩ := and1 h
      refine tst_eq (f := fun δ M => bnd (evE ev e1 δ M) fun d M1 => match truth M1 d with
        | some true => evE ev e2 δ M1
        | some false => rok d M1
        | none => none) ?_ (by funext δ M; rw [evE] <;> rfl)
      cases r with
      | nil => exact PW.pt (jw_and (sndT e1 O t1 h1) (jw_and1 (sndT e2 O t2 h2)))
      | cons d r => exact PW.pt (jw_and (sndT e1 O t1 h1) (sndT e2 O t2 h2).pw)
    · cases h
  | .orE e1 e2, s, X, c, a, O, ht, h => by
    obtain ⟨t1, t2⟩ := and1 (show (e1.tOk && e2.tOk) = true from ht)
    unfold chkE at h
    split at h
    · rename_i a b r pos
      obtain ⟨h1, h2⟩ := and1 h
      refine tst_eq (f := fun δ M => bnd (evE ev e1 δ M) fun d M1 => match truth M1 d with
        | some true => rok d M1
        | some false => evE ev e2 δ M1
        | none => none) ?_ (by funext δ M; rw [evE] <;> rfl)
      cases r with
      | nil => exact PW.pt (jw_or (sndT e1 O t1 h1) (jw_or1 (sndT e2 O t2 h2)))
      | cons d r => exact PW.pt (jw_or (sndT e1 O t1 h1) (sndT e2 O t2 h2).pw)
    · cases h
  | .notE e1, s, X, c, a, O, ht, h => by
    unfold chkE at h
    split at h
    · exact tst_eq (jt_not (sndT e1 O ht h)) (by funext δ M; rw [evE] <;> rfl)
    · cases h
  | .chain p q e1 e2 e3, s, X, c, a, O, ht, h => by
    unfold chkE at h
    split at h
    · obtain ⟨h1, h⟩ := and1 h
      obtain ⟨h2, h⟩ := and1 h
      obtain ⟨h3, h⟩ := and1 h
      obtain ⟨h4, h⟩ := and1 h
      obtain ⟨h5, h6⟩ := and1 h
      rw [beq_iff_eq] at h1 h2
      subst h1
      subst h2
      exact tst_eq (chain_split O (by simpa using h3) (sndE e1 O h4) (sndE e2 O h5) (sndE e3 O h6)).2 (by funext δ M; rw [evE] <;> rfl)
    · cases h
  | .var i, s, X, c, a, O, ht, h => jt_truth O.hK (sndE (.var i) O h) (plainT_ok (by unfold chkE at h; split at h <;> first | rfl | cases h))
  | .lit d, s, X, c, a, O, ht, h => jt_truth O.hK (sndE (.lit d) O h) (plainT_ok (by unfold chkE at h; split at h <;> first | rfl | cases h))
  | .glb x d, s, X, c, a, O, ht, h => jt_truth O.hK (sndE (.glb x d) O h) (plainT_ok (by unfold chkE at h; split at h <;> first | rfl | cases h))
  | .tup es, s, X, c, a, O, ht, h => jt_truth O.hK (sndE (.tup es) O h) (plainT_ok (by unfold chkE at h; split at h <;> first | rfl | cases h))
  | .lst m es, s, X, c, a, O, ht, h => jt_truth O.hK (sndE (.lst m es) O h) (plainT_ok (by unfold chkE at h; split at h <;> first | rfl | cases h))
  | .meth p m o es, s, X, c, a, O, ht, h => jt_truth O.hK (sndE (.meth p m o es) O h) (plainT_ok (by unfold chkE at h; split at h <;> first | rfl | cases h))
  | .call f es, s, X, c, a, O, ht, h => jt_truth O.hK (sndE (.call f es) O h) (plainT_ok (by unfold chkE at h; split at h <;> first | rfl | cases h))
  | .mcall cl f m o es, s, X, c, a, O, ht, h => jt_truth O.hK (sndE (.mcall cl f m o es) O h) (plainT_ok (by unfold chkE at h; (repeat' split at h) <;> first | rfl | cases h | (exfalso; simp at h)))
  | .prop cl f o, s, X, c, a, O, ht, h => jt_truth O.hK (sndE (.prop cl f o) O h) (plainT_ok (by unfold chkE at h; split at h <;> first | rfl | cases h))
  | .make cl f es, s, X, c, a, O, ht, h => jt_truth O.hK (sndE (.make cl f es) O h) (plainT_ok (by unfold chkE at h; split at h <;> first | rfl | cases h))
  | .sl3 m e1 e2 e3, s, X, c, a, O, ht, h => jt_truth O.hK (sndE (.sl3 m e1 e2 e3) O h) (plainT_ok (by unfold chkE at h; split at h <;> first | rfl | cases h))
  | .fld cl e f, s, X, c, a, O, ht, h => jt_truth O.hK (sndE (.fld cl e f) O h) (plainT_ok (by unfold chkE at h; split at h <;> first | rfl | cases h))
  | .tab q x kvs e d, s, X, c, a, O, ht, h => by
    unfold chkE at h
    split at h
    · split at h
      · obtain ⟨h1, h2⟩ := and1 h
        obtain ⟨rfl, hg, hd, T⟩ := tb_ok O h1
        exact tst_eq (jt_c (jc_has hg hd T (sndE e O h2)) (behind_no rfl) (tab_bl (.inl rfl))) (by funext δ M; rw [evE] <;> rfl)
      · cases h
    · split at h
      · obtain ⟨h1, h2⟩ := and1 h
        obtain ⟨rfl, hg, hd, T⟩ := tb_ok O h1
        exact tst_eq (jt_c (jc_hasnt hg hd T (sndE e O h2)) (behind_no rfl) (tab_bl (.inr rfl))) (by funext δ M; rw [evE] <;> rfl)
      · cases h
    · cases ht
    · cases ht
    · cases ht
  | .xis i hh, s, X, c, a, O, ht, h => jt_truth O.hK (sndE (.xis i hh) O h) (plainT_ok (by unfold chkE at h; split at h <;> first | rfl | cases h))
  | .xfld i f, s, X, c, a, O, ht, h => jt_truth O.hK (sndE (.xfld i f) O h) (plainT_ok (by unfold chkE at h; split at h <;> first | rfl | cases h))
  | .newD t, s, X, c, a, O, ht, h => jt_truth O.hK (sndE (.newD t) O h) (plainT_ok (by unfold chkE at h; split at h <;> first | rfl | cases h))
  | .disp es, s, X, c, a, O, ht, h => jt_truth O.hK (sndE (.disp es) O h) (plainT_ok (by unfold chkE at h; split at h <;> first | rfl | cases h))
  | .comp m own elt t k es ifs, s, X, c, a, O, ht, h => jt_truth O.hK (sndE (.comp m own elt t k es ifs) O h) (plainT_ok (by unfold chkE at h; split at h <;> first | rfl | cases h))
  | .dcomp own kx vx t k es ifs, s, X, c, a, O, ht, h => jt_truth O.hK (sndE (.dcomp own kx vx t k es ifs) O h) (plainT_ok (by unfold chkE at h; split at h <;> first | rfl | cases h))
  | .comp2 m own elt t k es t2 k2 es2, s, X, c, a, O, ht, h => jt_truth O.hK (sndE (.comp2 m own elt t k es t2 k2 es2) O h) (plainT_ok (by unfold chkE at h; split at h <;> first | rfl | cases h))
  | .ite _ _ _, _, _, _, _, _, ht, _ => nomatch ht
  | .frz _, _, _, _, _, _, ht, _ => nomatch ht
theorem sndPs {T : Tb} {ev : Ev} : ∀ (es : Es) {s : Sx} {X : Cx} {c : Cf} {pos : Pos} {keys : List (Option Expr)} {values : List Expr}, XOk T ev s X c → chkPs T s es keys values = true → ∃ trs, DPs X c pos keys values (es.fs ev) trs
  | .nil, s, X, c, pos, keys, values, O, h => by
    unfold chkPs at h
    obtain ⟨h1, h2⟩ := and1 h
    have e1 := List.isEmpty_iff.mp h1
    have e2 := List.isEmpty_iff.mp h2
    subst e1
    subst e2
    exact ⟨_, .nil⟩
  | .cons e r, s, X, c, pos, keys, values, O, h => by
    unfold chkPs at h
    split at h
    · rename_i k ks
      obtain ⟨h1, h2⟩ := and1 h
      cases r with
      | nil => unfold chkVs at h2; cases h2
      | cons e2 r =>
        unfold chkVs at h2
        split at h2
        · rename_i v vs
          obtain ⟨h2, h3⟩ := and1 h2
          obtain ⟨trs, hd⟩ := sndPs r (pos := pos) O h3
          exact ⟨_, .cons (sndE e O h1) (sndE e2 O h2) hd⟩
        · cases h2
    · cases h
theorem sndL {T : Tb} {ev : Ev} : ∀ (es : Es) {s : Sx} {X : Cx} {c : Cf} {as : List Expr}, XOk T ev s X c → chkEs T s es as = true → JL X c as (es.fs ev)
  | .nil, s, X, c, as, O, h => by
    unfold chkEs at h
    have e0 := List.isEmpty_iff.mp h
    subst e0
    exact .nil
  | .cons e es, s, X, c, as, O, h => by
    unfold chkEs at h
    split at h
    · obtain ⟨h1, h2⟩ := and1 h
      exact .cons (sndE e O h1) (sndL es O h2)
    · cases h
theorem sndI {T : Tb} {ev : Ev} : ∀ (es : Es) {k : Ik} {s : Sx} {X : Cx} {c : Cf} {a atg : Expr}, XOk T ev s X c → chkI T s k es a atg = true → JI X c atg a (fun δ M => bnd (evEs ev es δ M) fun ds M1 => itemsR k ds M1)
  | .nil, k, s, X, c, a, atg, O, h => by
    unfold chkI at h
    split at h
    · split at h
      · obtain ⟨e1, g1, g2, kvs, e2, T⟩ := tbk_ok O h
        subst e1 e2
        exact ji_eq (ji_keysK g1 g2 T) (by funext δ M; rw [evEs]; rfl)
      · cases h
    · cases h
  | .cons e r, k, s, X, c, a, atg, O, h => by
    unfold chkI at h
    split at h
    · obtain ⟨h1, h2⟩ := and1 h
      rw [beq_iff_eq] at h1
      have e0 : r = .nil := by
        cases r with
        | nil => rfl
        | cons _ _ => cases h1
      subst e0
      rw [ex_items]
      exact ji_ex O.hK (sndE e O h2)
    · split at h
      · rename_i x p1 y p2 a1 pos2 pos
        obtain ⟨h1, h⟩ := and1 h
        obtain ⟨h2, h⟩ := and1 h
        obtain ⟨h3, h⟩ := and1 h
        obtain ⟨h4, h⟩ := and1 h
        obtain ⟨h5, h⟩ := and1 h
        obtain ⟨h6, h7⟩ := and1 h
        obtain ⟨x1, y1⟩ := and1 h1
        obtain ⟨g1, b1⟩ := and1 h3
        obtain ⟨g2, b2⟩ := and1 h4
        rw [beq_iff_eq] at h6 x1 y1
        subst x1 y1
        have e0 : r = .nil := by
          cases r with
          | nil => rfl
          | cons _ _ => cases h6
        subst e0
        cases atg with
        | Tuple elts kk tpos =>
          rw [ex_items]
          exact ji_enumRS (gl_ok O g1) (bi_ok O b1) (gl_ok O g2) (bi_ok O b2) (sndE e O h7) (starEach_cons h5)
        | _ => cases h2
      · cases h
    · split at h
      · obtain ⟨h1, h⟩ := and1 h
        obtain ⟨h2, h⟩ := and1 h
        obtain ⟨h3, h⟩ := and1 h
        obtain ⟨h4, h⟩ := and1 h
        obtain ⟨h5, h6⟩ := and1 h
        refine itemsR_congr (rng_ok O h1 h2 h3 h4 (.cons (sndE e O h5) (sndL r O h6))) ?_
        funext δ M
        rw [evEs_eq]
        rfl
      · cases h
theorem sndG {T : Tb} {ev : Ev} : ∀ (t : Tg) {s : Sx} {X : Cx} {c : Cf} {a : Expr}, XOk T ev s X c → chkTg T s t a = true → JG X c a t.slots (evTg ev t)
  | .nm i, s, X, c, a, O, h => by
    unfold chkTg at h
    split at h
    · obtain ⟨h1, h2⟩ := and1 h
      obtain ⟨h3, h4⟩ := sto_ok O h2
      exact jg_eq (jg_name (O.N ▸ O.nd) (slot_ok O h1) h3 h4) (by funext d δ M; rw [evTg])
    · cases h
  | .tup ts, s, X, c, a, O, h => by
    unfold chkTg at h
    split at h
    · rename_i as _ _
      obtain ⟨h0, h⟩ := and1 h
      obtain ⟨h1, h⟩ := and1 h
      obtain ⟨h2, h3⟩ := and1 h
      rw [beq_iff_eq] at h2
      exact jg_eq (jg_tup (n := ts.len) (O.calm h0) O.hK (sndGs ts O h3 h1) ((assignEach_len _).trans h2.symm) (assignEach_star h1)) (by funext d δ M; rw [evTg] <;> rfl)
    · cases h
  | .sub o i, s, X, c, a, O, h => by
    unfold chkTg at h
    split at h
    · obtain ⟨h0, h⟩ := and1 h
      obtain ⟨h1, h2⟩ := and1 h
      exact jg_eq (jg_sub (sndE o O h1) (sndE i O h2) (assignSub (by simpa using h0))) (by funext d δ M; rw [evTg] <;> rfl)
    · cases h
  | .slc o e2 e3, s, X, c, a, O, h => by
    unfold chkTg at h
    split at h
    · obtain ⟨h1, h⟩ := and1 h
      obtain ⟨h2, h3⟩ := and1 h
      exact jg_eq (jg_slc (sndE o O h1) (sndE e2 O h2) (sndE e3 O h3)) (by funext d δ M; rw [evTg] <;> rfl)
    · cases h
  | .dsub o i, s, X, c, a, O, h => by
    unfold chkTg at h
    split at h
    · obtain ⟨h0, h⟩ := and1 h
      obtain ⟨h1, h2⟩ := and1 h
      have hu := O.un
      exact jg_eq (jg_dsub (by omega) (sndE o O h1) (sndE i O h2) (assignSub (by simpa using h0))) (by funext d δ M; rw [evTg] <;> rfl)
    · cases h
  | .att cl o f, s, X, c, a, O, h => by
    unfold chkTg at h
    split at h
    · obtain ⟨h0, h⟩ := and1 h
      obtain ⟨h1, h2⟩ := and1 h
      rw [beq_iff_eq] at h0
      subst h0
      obtain ⟨n1, n2⟩ := O.tb.na cl f (by simpa using h1)
      exact jg_eq (jg_att n1 n2 (sndE o O h2)) (by funext d δ M; rw [evTg] <;> rfl)
    · cases h
theorem sndGs {T : Tb} {ev : Ev} : ∀ (ts : Tgs) {s : Sx} {X : Cx} {c : Cf} {as : List Expr}, XOk T ev s X c → chkTgs T s ts as = true → noStars as = true → JGs X c as ts.slots (evTgs ev ts)
  | .nil, s, X, c, as, O, h, hs => by
    unfold chkTgs at h
    have e0 := List.isEmpty_iff.mp h
    subst e0
    exact jgs_eq jgs_nil (by funext d δ M; unfold evTgs; cases d <;> rfl)
  | .cons t ts, s, X, c, as, O, h, hs => by
    unfold chkTgs at h
    split at h
    · obtain ⟨h1, h2⟩ := and1 h
      obtain ⟨s1, s2⟩ := and1 hs
      exact jgs_eq (jgs_cons (sndG t O h1) (sndGs ts O h2 s2) (assignEach_cons s1)) (by funext d δ M; cases d <;> simp only [evTgs])
    · cases h
end
end Mo
/-! Mo15: statements, checked; defs. -/
namespace Mo
open PySem PySem.Spec L2
open PyProof.Rows hiding St

/-- the machine's other store of a comprehension -/
def swB (sc : Scope) (a tg : Expr) : Bool := match a with
  | .ListComp _ _ scope apos => (match tg with
    | .Name y py => (sc.names.lookup y == some .local) && ((py.line == apos.line) && !(scope.names.any fun (n, k) => n == y && (k == .local || k == .cell)))
    | _ => false)
  | _ => false
theorem swB_ok {env : Env} {a tg : Expr} {l : Nat} (hk : env.scope.kind = .function) (h : isComp a = false ∨ ∃ e g sc p, a = .ListComp e g sc p) : swapsWithSole [tg] a l env = pure (swB env.scope a tg) := by
  show swapsWith a (some tg) l env = _
  rcases h with h | ⟨e, g, sc, p, rfl⟩
  · rw [swapsWith_no h]
    cases a <;> first | rfl | cases h
  · cases tg with
    | Name y py =>
      have hb : env.blockKind = .function := by unfold Env.blockKind; rw [hk]; rfl
      show (pure (env.blockKind == .function && env.kindOf y == some .local && py.line == p.line && !(sc.names.any fun (n, k) => n == y && (k == .local || k == .cell))) : Sem Bool) = _
      rw [hb]
      show _ = (pure ((env.scope.names.lookup y == some .local) && ((py.line == p.line) && !(sc.names.any fun (n, k) => n == y && (k == .local || k == .cell)))) : Sem Bool)
      unfold Env.kindOf
      simp [Bool.and_assoc]
    | _ => rfl
def E.isC : E → Bool
  | .comp _ _ _ _ _ _ _ => true
  | .comp2 _ _ _ _ _ _ _ _ _ => true
  | _ => false
def isLC : Expr → Bool
  | .ListComp _ _ _ _ => true
  | _ => false
theorem isLC_ok {a : Expr} (h : (!isComp a || isLC a) = true) : isComp a = false ∨ ∃ e g sc p, a = .ListComp e g sc p := by
  cases a <;> first | exact .inl rfl | exact .inr ⟨_, _, _, _, rfl⟩ | cases h
theorem lcP {T : Tb} {ev : Ev} {s : Sx} {X : Cx} {c : Cf} {a : Expr} (e : E) (O : XOk T ev s X c) (hc : e.isC = true) (h : chkE T s e a = true) {i : Nat} {y : PySem.Str} {py spos : Pos} (hy : X.N[i]? = some y) (hyl : X.env.scope.names.lookup y = some .local)
    (hsw : swapsWith a (some (.Name y py)) spos.line X.env = pure true) : ∃ t, PS X (.Assign [.Name y py] a spos) (tAsg t (gName i)) ∧ ∀ σ H Q, tG c.g c.cx c.Wx (RD c.g) (evE ev e) σ H Q → t σ H Q := by
  cases e with
  | comp m own elt t k es ifs =>
    unfold chkE at h
    split at h
    · obtain ⟨hz, h⟩ := and1 h
      obtain ⟨h0, h⟩ := and1 h
      obtain ⟨h1, h⟩ := and1 h
      obtain ⟨h2, h⟩ := and1 h
      obtain ⟨hS, h⟩ := and1 h
      obtain ⟨h3, h⟩ := and1 h
      obtain ⟨h4, h⟩ := and1 h
      obtain ⟨h5, h6⟩ := and1 h
      rw [beq_iff_eq] at hz
      subst hz
      have ok := blkOk_ok h1
      rw [← O.N, ← O.sc] at ok
      have hN : X.N.Nodup := O.N ▸ O.nd
      have hs := folded_no (env := X.env) (by simpa using hS)
      have ee : evE ev (.comp m own elt t k es ifs) = compF m own (fun δ M => bnd (evEs ev es δ M) fun ds M1 => itemsR k ds M1) (evTg ev t) (evIfs ev ifs) (evE ev elt) := by funext δ M; rw [evE] <;> rfl
      rw [ee]
      cases ifs with
      | nil =>
        have e0 := List.isEmpty_iff.mp h6
        subst e0
        exact ⟨_, ps_setLc (O.calm h0) hN hy hyl hsw (sndI es O h3) ok (fun s H C cl fp => sndG t (O.blk _ s H C cl fp) h4) (fun _ _ _ _ _ => PTs.imp pts_nil (ifs_nil ev)) (fun s H C cl fp => sndE elt (O.blk _ s H C cl fp) h5) hs,
          comp_t (all_mem h2) c.Wx⟩
      | cons e1 r =>
        cases r with
        | cons _ _ => cases h6
        | nil =>
          dsimp only at h6
          split at h6
          · obtain ⟨h7, h8⟩ := and1 h6
            exact ⟨_, ps_setLc (O.calm h0) hN hy hyl hsw (sndI es O h3) ok (fun s H C cl fp => sndG t (O.blk _ s H C cl fp) h4) (fun s H C cl fp => pts_one (ifs_one ev e1 ▸ sndT e1 (O.blk _ s H C cl fp) h7 h8)) (fun s H C cl fp => sndE elt (O.blk _ s H C cl fp) h5) hs,
              comp_t (all_mem h2) c.Wx⟩
          · cases h6
    · cases h
  | comp2 m own elt t k es t2 k2 es2 =>
    unfold chkE at h
    split at h
    · obtain ⟨hz, h⟩ := and1 h
      obtain ⟨hz2, h⟩ := and1 h
      obtain ⟨h0, h⟩ := and1 h
      obtain ⟨h1, h⟩ := and1 h
      obtain ⟨h2, h⟩ := and1 h
      obtain ⟨h22, h⟩ := and1 h
      obtain ⟨hS, h⟩ := and1 h
      obtain ⟨hS2, h⟩ := and1 h
      obtain ⟨h3, h⟩ := and1 h
      obtain ⟨h4, h⟩ := and1 h
      obtain ⟨h5, h⟩ := and1 h
      obtain ⟨h6, h7⟩ := and1 h
      rw [beq_iff_eq] at hz hz2
      subst hz
      subst hz2
      have ok := blkOk_ok h1
      rw [← O.N, ← O.sc] at ok
      have hN : X.N.Nodup := O.N ▸ O.nd
      have hs := folded_no (env := X.env) (by simpa using hS)
      have ee : evE ev (.comp2 m own elt t k es t2 k2 es2) = comp2F m own (fun δ M => bnd (evEs ev es δ M) fun ds M1 => itemsR k ds M1) (evTg ev t) (fun δ M => bnd (evEs ev es2 δ M) fun ds M1 => itemsR k2 ds M1) t2.slots (evTg ev t2) (evE ev elt) := by funext δ M; rw [evE] <;> rfl
      rw [ee]
      exact ⟨_, ps_setLc2 (O.calm h0) hN hy hyl hsw (sndI es O h3) ok (all_mem h22) (fun s H C cl fp => sndG t (O.blk _ s H C cl fp) h4) (fun _ _ _ _ _ => pts_nil)
        (fun s H C cl fp => sndI es2 (O.blk _ s H C cl fp) h5) (fun s H C cl fp => sndG t2 (O.blk _ s H C cl fp) h6) (fun _ _ _ _ _ => pts_nil) (fun s H C cl fp => sndE elt (O.blk _ s H C cl fp) h7) hs (fun env => folded_no (by simpa using hS2)),
        comp2_t (all_mem h2) c.Wx⟩
    · cases h
  | _ => cases hc

/-! ### statements -/
def Sx.suite (s : Sx) (i : Option Nat) : Sx := { s with calm := false, st := false, cu := i }
def isDoc : Expr → Bool
  | .Constant (.str _) _ _ => true
  | _ => false
def exNm (T : Tb) (h : Nat) (x : PySem.Str) : Bool := match T.exs[h]? with
  | some (y, _, _) => x == y
  | none => false
mutual
def chkS (T : Tb) (s : Sx) : S → Stmt → Bool
  | .exp e, st => match st with
    | .Expr a _ => !isComp a && chkE T s e a
    | _ => false
  | .asg t e, st => match st with
    | .Assign [tg] a _ => (!isComp a || isLC a) && (swNo tg a && (noStar tg && (chkE T s e a && (chkTg T s t tg && (!swB s.sc a tg || e.isC)))))
    | _ => false
  | .par i j e1 e2, st => match st with
    | .Assign [.Tuple [.Name x px, .Name y py] _ _] (.Tuple [a, b] _ _) _ => s.calm && ((s.N[i]? == some x) && ((s.N[j]? == some y) && (!(i == j) && (parB s.sc x y px py a b && (chkE T s e1 a && chkE T s e2 b)))))
    | _ => false
  | .ret e, st => match st with
    | .Return (some a) _ => chkE T s e a
    | _ => false
  | .retN, st => match st with
    | .Return none _ => true
    | _ => false
  | .pass, st => match st with
    | .Pass _ => true
    | .Expr a _ => isDoc a
    | _ => false
  | .hole, _ => true
  | .brk, st => match st with
    | .Break _ => true
    | _ => false
  | .cont, st => match st with
    | .Continue _ => true
    | _ => false
  | .ifS e a b, st => match st with
    | .If c as bs _ => e.tOk && (chkE T s e c && (chkSs T s a as && chkSs T s b bs))
    | _ => false
  | .forS t k es b kl, st => match st with
    | .For tg iter as [] _ => s.st && (s.calm && (!isSet iter && (chkI T s k es iter tg && (chkTg T s t tg && chkSs T s b as))))
    | _ => false
  | .whl n e b kl, st => match st with
    | .While c as [] _ => s.st && (e.tOk && (chkE T s e c && chkSs T s b as))
    | _ => false
  | .raise cl ks es, st => match st with
    | .Raise (some (.Call (.Name x _) as [] _)) none _ => s.calm && (glB s.sc x && (okName x && (noStars as && (chkEs T s es as && (match T.exs[cl]? with
      | some (y, ks', k) => (x == y) && ((ks == ks') && ((ks.isEmpty == as.isEmpty) && (ks.isEmpty || decide (k + 1 ≤ s.k))))
      | none => false)))))
    | _ => false
  | .tryS b hs, st => match st with
    | .Try as ahs [] [] _ => s.st && (s.cu.isNone && (!ahs.isEmpty && (chkSs T s b as && chkHs T s hs ahs)))
    | _ => false
  | .kil b is, st => chkS T s b st
def chkSs (T : Tb) (s : Sx) : Ss → List Stmt → Bool
  | .nil, sts => sts.isEmpty
  | .cons b r, sts => match sts with
    | st :: sts => chkS T s b st && chkSs T s r sts
    | [] => false
def chkHs (T : Tb) (s : Sx) : Hs → List ExceptHandler → Bool
  | .nil, hs => hs.isEmpty
  | .cons h i b r, hs => match hs with
    | .ExceptHandler (some (.Name x _)) no (b₀ :: suite) _ :: hs => exNm T h x && (glB s.sc x && (okName x && ((match no, i with
      | none, none => true
      | some n, some i => (s.N[i]? == some n) && (s.sc.names.lookup n == some .local)
      | _, _ => false) && (chkSs T (s.suite i) b (b₀ :: suite) && chkHs T s r hs))))
    | _ => false
end
section
variable {X : Cx} {c : Cf}
theorem js_eq {a : Stmt} {f g : Sl → Store → Option SO} (h : JS X c a f) (e : f = g) : JS X c a g := e ▸ h
theorem jss_eq {a : List Stmt} {f g : Sl → Store → Option SO} (h : JSs X c a f) (e : f = g) : JSs X c a g := e ▸ h
end
theorem TOk.cx {T : Tb} {ev : Ev} {P : Program} {w : World} {K : PySem.W.Frag} {mg : PySem.Str → Option Value} {base : Heap} {g : Gd} (h : TOk T ev P w K mg base g) (x : Option (Exn × Nat)) : TOk T { ev with cx := x } P w K mg base g :=
  { fn := h.fn, mt := h.mt, mw := h.mw, pr := h.pr, mk_ := h.mk_, exn := h.exn, ex0 := h.ex0, exI := h.exI, tab := h.tab, xf := h.xf, xi := h.xi, xm := h.xm, na := h.na, glb := h.glb, bi := h.bi, tb := h.tb }
def cxI (x : Exn) : Option Nat → Option (Exn × Nat)
  | none => none
  | some i => some (x, i)
theorem XOk.suite {T : Tb} {ev : Ev} {s : Sx} {X : Cx} {c : Cf} (O : XOk T ev s X c) {a : Addr} {oe : Obj} {cls : Value} {d : Option Addr} {pn : List (Addr × Obj)} {x : Exn} (i : Option Nat) (hz : Zc cls d oe) (hd : ∃ vs, oe.data = .fields vs) (hx : cls = .ref (c.g.ca x.cls)) (hlt : x.cls < T.exs.length) :
    XOk T { ev with cx := cxI x i } (s.suite i) (X.suite a ((a, oe) :: pn)) { c with cx := curOf x d a i, Wx := WF } :=
  { tb := O.tb.cx _, hK := O.hK, N := O.N, nd := O.nd, sc := O.sc, fnc := O.fnc, calm := (fun z => nomatch z), room := (fun z => nomatch z), un := O.un, tk := takes_wf, st := (fun z => nomatch z)
    cu := (fun j hj => by
      have hj' : i = some j := hj
      subst hj'
      exact ⟨x, rfl, X, a, oe, cls, d, pn, rfl, rfl, hx, hz, hd, hlt⟩) }
theorem XOk.tr {T : Tb} {ev : Ev} {s : Sx} {X : Cx} {c : Cf} (O : XOk T ev s X c) (h0 : s.st = true) (hc : s.cu.isNone = true) {W : WX} {pn : List (Addr × Obj)} {xe : Value → Shared → Prop} (tk : Takes (X.tr pn xe) W) (hp : PassesOwn (model X.prog X.w) X.A X.env xe) : XOk T ev s (X.tr pn xe) { c with Wx := W } :=
  { tb := O.tb, hK := O.hK, N := O.N, nd := O.nd, sc := O.sc, fnc := O.fnc, calm := O.calm, room := O.room, un := O.un, tk := tk
    st := (fun z => ⟨(O.st z).1, hp, (O.st z).2.2.1, (O.st z).2.2.2⟩), cu := (fun i z => by rw [z] at hc; cases hc) }
noncomputable def Hs.fs (ev : Ev) : Hs → List (Nat × Option Nat × (Exn → Sl → Store → Option SO))
  | .nil => []
  | .cons h i b r => (h, i, fun x => evSs { ev with cx := cxI x i } b) :: r.fs ev
theorem evHs_eq (ev : Ev) : ∀ (hs : Hs) x δ M, evHs ev hs x δ M = hdsF (hs.fs ev) x δ M
  | .nil, x, δ, M => by rw [evHs] <;> rfl
  | .cons h i b r, x, δ, M => by
    cases i with
    | none =>
      simp only [evHs, Hs.fs, hdsF, cxI]
      rw [evHs_eq ev r]
    | some i =>
      simp only [evHs, Hs.fs, hdsF, cxI]
      rw [evHs_eq ev r]
theorem exNm_ok {T : Tb} {ev : Ev} {P : Program} {w : World} {K : PySem.W.Frag} {mg : PySem.Str → Option Value} {base : Heap} {g : Gd} (O : TOk T ev P w K mg base g) {h : Nat} {x : PySem.Str} (e : exNm T h x = true) : h < T.exs.length ∧ mg x = some (.ref (g.ca h)) := by
  unfold exNm at e
  split at e
  · rename_i y ks k hk
    rw [beq_iff_eq] at e
    subst e
    refine ⟨(List.getElem?_eq_some_iff.mp hk).1, ?_⟩
    cases ks with
    | nil => exact (O.ex0 _ _ _ hk).gC
    | cons f ks => exact (O.exI _ _ _ _ _ hk).gC
  · cases e
mutual
theorem sndS {T : Tb} : ∀ (st : S) {ev : Ev} {s : Sx} {X : Cx} {c : Cf} {a : Stmt}, XOk T ev s X c → X.env.scope.kind = .function → chkS T s st a = true → JS X c a (evS ev st)
  | .exp e, ev, s, X, c, a, O, hk, h => by
    unfold chkS at h
    split at h
    · obtain ⟨h1, h2⟩ := and1 h
      exact js_eq (js_exp (sndE e O h2) (swapsWith_no (by simpa using h1))) (by funext δ M; rw [evS])
    · cases h
  | .asg t e, ev, s, X, c, a, O, hk, h => by
    unfold chkS at h
    split at h
    · rename_i tg a spos
      obtain ⟨h1, h⟩ := and1 h
      obtain ⟨h2, h⟩ := and1 h
      obtain ⟨h3, h⟩ := and1 h
      obtain ⟨h4, h⟩ := and1 h
      obtain ⟨h5, h6⟩ := and1 h
      have hsw := swB_ok (l := spos.line) (tg := tg) hk (isLC_ok h1)
      rw [O.sc] at hsw
      by_cases hb : swB s.sc a tg = true
      · rw [hb] at h6 hsw
        have hb' := hb
        unfold swB at hb
        split at hb
        · split at hb
          · rename_i y py
            obtain ⟨b1, _⟩ := and1 hb
            cases t with
            | nm i =>
              unfold chkTg at h5
              dsimp only at h5
              obtain ⟨t1, t2⟩ := and1 h5
              obtain ⟨tt, g1, g2⟩ := lcP e O (by simpa using h6) h4 (slot_ok O t1) (by rw [O.sc]; exact beq_iff_eq.mp b1) hsw
              exact js_eq (js_setU g1 g2) (by funext δ M; rw [evS]; simp only [evTg])
            | _ => unfold chkTg at h5; cases h5
          · cases hb
        · cases hb
      · rw [Bool.not_eq_true] at hb
        rw [hb] at hsw
        exact js_eq (js_asg (sndE e O h4) (sndG t O h5) hsw (swapped_no2 h2) (assignEach1 h3)) (by funext δ M; rw [evS])
    · cases h
  | .par i j e1 e2, ev, s, X, c, a, O, hk, h => by
    unfold chkS at h
    split at h
    · rename_i x px y py kt pt a b k2 pt2 spos
      obtain ⟨h0, h⟩ := and1 h
      obtain ⟨h1, h⟩ := and1 h
      obtain ⟨h2, h⟩ := and1 h
      obtain ⟨h3, h⟩ := and1 h
      obtain ⟨h4, h⟩ := and1 h
      obtain ⟨h5, h6⟩ := and1 h
      rw [← O.sc] at h4
      have h4' := h4
      unfold parB at h4'
      obtain ⟨g1, h4'⟩ := and1 h4'
      obtain ⟨g2, h4'⟩ := and1 h4'
      obtain ⟨_, h4'⟩ := and1 h4'
      obtain ⟨_, h4'⟩ := and1 h4'
      obtain ⟨g5, _⟩ := and1 h4'
      unfold noStars noStars at g5
      simp only [Bool.and_eq_true] at g5
      have hb : X.env.blockKind = .function := by unfold Env.blockKind; rw [hk]; rfl
      have hN : X.N.Nodup := O.N ▸ O.nd
      exact js_eq (js_par (O.calm h0) hN (slot_ok O h1) (slot_ok O h2) (by simpa using h3) (beq_iff_eq.mp g1) (beq_iff_eq.mp g2) (sndE e1 O h5) (sndE e2 O h6) (swapped_par hb h4) rfl (starEach_cons g5.1) (starEach_cons g5.2.1)) (by funext δ M; rw [evS])
    · cases h
  | .ret e, ev, s, X, c, a, O, hk, h => by
    unfold chkS at h
    split at h
    · exact js_eq (js_ret (sndE e O h)) (by funext δ M; rw [evS])
    · cases h
  | .retN, ev, s, X, c, a, O, hk, h => by
    unfold chkS at h
    split at h
    · exact js_eq js_retN (by funext δ M; rw [evS])
    · cases h
  | .pass, ev, s, X, c, a, O, hk, h => by
    unfold chkS at h
    split at h
    · exact js_eq js_pass (by funext δ M; rw [evS])
    · unfold isDoc at h
      split at h
      · exact js_eq js_doc (by funext δ M; rw [evS])
      · cases h
    · cases h
  | .hole, ev, s, X, c, a, O, hk, h => js_eq js_hole (by funext δ M; rw [evS])
  | .brk, ev, s, X, c, a, O, hk, h => by
    unfold chkS at h
    split at h
    · exact js_eq js_brk (by funext δ M; rw [evS])
    · cases h
  | .cont, ev, s, X, c, a, O, hk, h => by
    unfold chkS at h
    split at h
    · exact js_eq js_cont (by funext δ M; rw [evS])
    · cases h
  | .ifS e x y, ev, s, X, c, a, O, hk, h => by
    unfold chkS at h
    split at h
    · obtain ⟨h0, h⟩ := and1 h
      obtain ⟨h1, h⟩ := and1 h
      obtain ⟨h2, h3⟩ := and1 h
      exact js_eq (js_if (sndT e O h0 h1) (sndSs x O hk h2) (sndSs y O hk h3)) (by funext δ M; rw [evS] <;> rfl)
    · cases h
  | .forS t k es b kl, ev, s, X, c, a, O, hk, h => by
    unfold chkS at h
    split at h
    · obtain ⟨h0, h⟩ := and1 h
      obtain ⟨h1, h⟩ := and1 h
      obtain ⟨h2, h⟩ := and1 h
      obtain ⟨h3, h⟩ := and1 h
      obtain ⟨h4, h5⟩ := and1 h
      exact js_eq (js_for (kl := kl) (O.st h0).2.1 (O.calm h1) (sndI es O h3) (sndG t O h4) (sndSs b O hk h5) (folded_no (by simpa using h2))) (by funext δ M; rw [evS])
    · cases h
  | .whl n e b kl, ev, s, X, c, a, O, hk, h => by
    unfold chkS at h
    split at h
    · obtain ⟨h0, h⟩ := and1 h
      obtain ⟨h1, h⟩ := and1 h
      obtain ⟨h2, h3⟩ := and1 h
      exact js_eq (js_while (kl := kl) (n := n) (O.st h0).2.1 (sndT e O h1 h2) (sndSs b O hk h3)) (by funext δ M; rw [evS] <;> rfl)
    · cases h
  | .raise cl ks es, ev, s, X, c, a, O, hk, h => by
    unfold chkS at h
    split at h
    · rename_i x p1 as p2 p3
      obtain ⟨h0, h⟩ := and1 h
      obtain ⟨h1, h⟩ := and1 h
      obtain ⟨h2, h⟩ := and1 h
      obtain ⟨h3, h⟩ := and1 h
      obtain ⟨h4, h⟩ := and1 h
      split at h
      · rename_i y ks' k hk'
        obtain ⟨h5, h⟩ := and1 h
        obtain ⟨h6, h⟩ := and1 h
        obtain ⟨h7, h8⟩ := and1 h
        rw [beq_iff_eq] at h5 h6 h7
        subst h5
        subst h6
        have L := sndL es O h4
        cases ks with
        | nil =>
          have e0 : as = [] := List.isEmpty_iff.mp h7.symm
          subst e0
          have e1 : es = .nil := by
            cases es with
            | nil => rfl
            | cons _ _ => unfold chkEs at h4; cases h4
          subst e1
          exact js_eq (js_raise0 (O.calm h0) O.tk (O.tb.ex0 _ _ _ hk') (gl_ok O h1) (okName1 h2)) (by funext δ M; rw [evS, evEs]; rfl)
        | cons f ks =>
          cases as with
          | nil => cases h7
          | cons a as =>
            have h3' := h3
            unfold noStars at h3'
            exact js_eq (js_raiseI (O.calm h0) O.tk (O.tb.exI _ _ _ _ _ hk') ((O.room h0).mono (by simpa using h8)) (gl_ok O h1) (okName1 h2) (L.ja h3) (starEach_cons (and1 h3').1) (backTo_any (and1 h3').2)) (by funext δ M; rw [evS, evEs_eq])
      · cases h
    · cases h
  | .tryS b hs, ev, s, X, c, a, O, hk, h => by
    unfold chkS at h
    split at h
    · rename_i as ahs p
      obtain ⟨h0, h⟩ := and1 h
      obtain ⟨h1, h⟩ := and1 h
      obtain ⟨h2, h⟩ := and1 h
      obtain ⟨h3, h4⟩ := and1 h
      cases ahs with
      | nil => cases h2
      | cons a0 ahs =>
        exact js_eq (js_try (O.st h0).1 O.hK O.tb.tab (O.N ▸ O.nd) (O.st h0).2.2.1 (O.st h0).2.2.2 O.tk (fun W pn xe tk hp => sndSs b (O.tr h0 h1 tk hp) hk h3) (sndHs hs O hk h4)) (by
          funext δ M
          rw [evS, O.tb.exn]
          all_goals simp only [evHs_eq]
          all_goals rfl)
    · cases h
  | .kil b is, ev, s, X, c, a, O, hk, h => by
    unfold chkS at h
    exact js_eq (js_kil (is := is) (sndS b O hk h)) (by funext δ M; rw [evS] <;> rfl)
theorem sndSs {T : Tb} : ∀ (b : Ss) {ev : Ev} {s : Sx} {X : Cx} {c : Cf} {a : List Stmt}, XOk T ev s X c → X.env.scope.kind = .function → chkSs T s b a = true → JSs X c a (evSs ev b)
  | .nil, ev, s, X, c, a, O, hk, h => by
    unfold chkSs at h
    have e0 := List.isEmpty_iff.mp h
    subst e0
    exact jss_eq jss_nil (by funext δ M; rw [evSs])
  | .cons st r, ev, s, X, c, a, O, hk, h => by
    unfold chkSs at h
    split at h
    · obtain ⟨h1, h2⟩ := and1 h
      exact jss_eq (jss_cons (sndS st O hk h1) (sndSs r O hk h2)) (by funext δ M; rw [evSs] <;> rfl)
    · cases h
theorem sndHs {T : Tb} : ∀ (b : Hs) {ev : Ev} {s : Sx} {X : Cx} {c : Cf} {a : List ExceptHandler}, XOk T ev s X c → X.env.scope.kind = .function → chkHs T s b a = true → HdsJ X c T.exs.length a (b.fs ev)
  | .nil, ev, s, X, c, a, O, hk, h => by
    unfold chkHs at h
    have e0 := List.isEmpty_iff.mp h
    subst e0
    exact .nil
  | .cons hh i b r, ev, s, X, c, a, O, hk, h => by
    unfold chkHs at h
    split at h
    · rename_i x np no b₀ suite pos' hs
      obtain ⟨h1, h⟩ := and1 h
      obtain ⟨h2, h⟩ := and1 h
      obtain ⟨h3, h⟩ := and1 h
      obtain ⟨h4, h⟩ := and1 h
      obtain ⟨h5, h6⟩ := and1 h
      obtain ⟨g1, g2⟩ := exNm_ok O.tb h1
      refine .cons ?_ g1 ⟨gl_ok O h2, okName1 h3, .inl g2⟩ (fun a oe cls d pn x hz hd hx hlt => sndSs b (O.suite i hz hd hx hlt) hk h5) (sndHs r O hk h6)
      split at h4
      · exact trivial
      · obtain ⟨q1, q2⟩ := and1 h4
        refine ⟨slot_ok O q1, ?_⟩
        unfold Env.kindOf
        rw [O.sc]
        exact beq_iff_eq.mp q2
      · cases h4
    · cases h
end
end Mo
/-! Mo16: defs and the law's end. -/
namespace Mo
open PySem PySem.Spec L2
open PyProof.Rows hiding St

section
variable {T : Tb} {ev : Ev} {P : Program} {w : World} {K : PySem.W.Frag} {mg : PySem.Str → Option Value} {base : Heap} {g : Gd}
theorem entry {g : Gd} {W : Wd} {H : Hp} {M : Store} {ds : List D} {vs : List V} {N : List PySem.Str} {n : Nat} (hn : N.length = n) (s : SR g W H M) (r : Reps g.K W H ds vs) : Pre g none W H (ds.map some ++ List.replicate (n - ds.length) none) (L2.start N vs) M := by
  have hl := r.length
  unfold L2.start
  refine ⟨by simp [hl, hn], fun i d h hx => ?_, s, fun _ _ _ _ h => nomatch h⟩
  have hi : i < ds.length := by
    by_cases hi : i < ds.length
    · exact hi
    · rw [List.getElem?_append_right (by simpa using hi), List.getElem?_replicate] at h
      split at h <;> cases h
  rw [List.getElem?_append_left (by simpa using hi), List.getElem?_map] at h
  cases q : ds[i]? with
  | none => rw [q] at h; cases h
  | some d' =>
    rw [q] at h
    cases h
    obtain ⟨v, h1, h2⟩ := r.get q
    refine ⟨v, ?_, h2⟩
    rw [List.getElem?_append_left (by simp [hl]; exact hi), List.getElem?_map, h1]
    rfl
theorem def_ok {x qual : PySem.Str} {st : Stmt} {f : Addr} {fd : FuncData} {N ps : List PySem.Str} {k n m : Nat} {b : Ss} (F : Fun K x qual st f fd) (S : FnScope N ps (defScope st)) (tok : TOk T ev P w K mg base g) (hcx : ev.cx = none) (hK : g.K = K) (hn : ps.length = n) (hm : N.length = m)
    (chk : chkSs T { N := N, sc := defScope st, k := k } b (defBody st) = true) : FnOk P w K mg base (L2.CX P w) (k + 1) f fd ps (spC g n (evF ev m b)) := by
  refine F.okX S (fun vs H Q E ⟨W, M, ds, h1, s, r, _⟩ => by rw [r.length, h1, hn]) fun cdv A outer s H vs Q E hr ⟨W, M, ds, h1, sr, rs, res⟩ => ?_
  have O : XOk T ev { N := N, sc := defScope st, k := k } (cxOf (L2.CX P w) P w K mg base N qual (defScope st) f cdv A outer s H E) { g := g, cx := none, Wx := fun cls d _ H => E cls d H } :=
    { tb := tok, hK := hK, N := rfl, nd := S.nd, sc := rfl, fnc := (fun _ _ => rfl), calm := (fun _ => rfl), room := (fun _ => hr), un := (by have := hr.un; show (A.deeper _).units + 66 < _; omega), tk := takes_of rfl rfl rfl rfl
      st := (fun _ => ⟨rfl, passes_of rfl, rfl, rfl⟩), cu := (fun i z => nomatch z) }
  refine ⟨_, sndSs b O S.kind chk, W, ds.map some ++ List.replicate (m - ds.length) none, M, entry hm sr rs, ?_⟩
  unfold evF at res
  cases q : evSs ev b (ds.map some ++ List.replicate (m - ds.length) none) M with
  | none => rw [q] at res; exact res
  | some o =>
    rw [q] at res
    cases o with
    | nx δ M' => exact fun W' H' σ' e p => res W' H' .non e p.sr rfl
    | bk δ M' => exact res.elim
    | ct δ M' => exact res.elim
    | rt d M' => exact fun W' H' v e s r => res W' H' v e s r
    | exc x δ M' => exact fun W' H' σ' c dd e p r => res W' H' c dd e p.sr r
end

/-! ### bounds, and what may be forgotten -/
mutual
def D.bnd (n : Nat) : D → Bool
  | .oid k => decide (k < n)
  | .tup xs => Ds.bnd n xs
  | .lst xs => Ds.bnd n xs
  | .scr xs => Ds.bnd n xs
  | .ktup xs => Ds.bnd n xs
  | _ => true
def Ds.bnd (n : Nat) : List D → Bool
  | [] => true
  | d :: ds => D.bnd n d && Ds.bnd n ds
end
mutual
theorem Rep.bnd {K : PySem.W.Frag} {W : Wd} {H : Hp} : ∀ (d : D) (v : V), Rep K W H d v → D.bnd W.ad.length d = true
  | .oid n, _, ⟨a, _, h⟩ => decide_eq_true (List.getElem?_eq_some_iff.mp h).1
  | .tup xs, _, ⟨_, vs, _, _, h⟩ => Reps.bnd xs vs h
  | .ktup xs, _, ⟨_, vs, _, _, h⟩ => Reps.bnd xs vs h
  | .lst xs, _, ⟨_, vs, _, _, h⟩ => Reps.bnd xs vs h
  | .scr xs, _, ⟨_, vs, _, _, h⟩ => Reps.bnd xs vs h
  | .non, _, _ => rfl
  | .bl _, _, _ => rfl
  | .int _, _, _ => rfl
  | .str _, _, _ => rfl
  | .sy _, _, _ => rfl
  | .exr, _, _ => rfl
theorem Reps.bnd {K : PySem.W.Frag} {W : Wd} {H : Hp} : ∀ (ds : List D) (vs : List V), Reps K W H ds vs → Ds.bnd W.ad.length ds = true
  | [], _, _ => rfl
  | d :: ds, _, ⟨v, r, _, h1, h2⟩ => by
    show (D.bnd _ d && Ds.bnd _ ds) = true
    rw [Rep.bnd d v h1, Reps.bnd ds r h2]
    rfl
end
mutual
theorem Rep.cut {K : PySem.W.Frag} {W : Wd} {H : Hp} {m : Nat} : ∀ (d : D) (v : V), Rep K W H d v → D.bnd m d = true → Rep K { W with ad := W.ad.take m } H d v
  | .oid n, _, ⟨a, e, h⟩, b => ⟨a, e, by
      show (W.ad.take m)[n]? = some a
      rw [List.getElem?_take_of_lt (of_decide_eq_true b)]; exact h⟩
  | .tup xs, _, ⟨a, vs, e, h1, h⟩, b => ⟨a, vs, e, h1, Reps.cut xs vs h b⟩
  | .ktup xs, _, ⟨a, vs, e, h1, h⟩, b => ⟨a, vs, e, h1, Reps.cut xs vs h b⟩
  | .lst xs, _, ⟨a, vs, e, h1, h⟩, b => ⟨a, vs, e, h1, Reps.cut xs vs h b⟩
  | .scr xs, _, ⟨a, vs, e, h1, h⟩, b => ⟨a, vs, e, h1, Reps.cut xs vs h b⟩
  | .non, _, h, _ => h
  | .bl _, _, h, _ => h
  | .int _, _, h, _ => h
  | .str _, _, h, _ => h
  | .sy _, _, h, _ => h
  | .exr, _, h, _ => h
theorem Reps.cut {K : PySem.W.Frag} {W : Wd} {H : Hp} {m : Nat} : ∀ (ds : List D) (vs : List V), Reps K W H ds vs → Ds.bnd m ds = true → Reps K { W with ad := W.ad.take m } H ds vs
  | [], _, h, _ => h
  | d :: ds, _, ⟨v, r, e, h1, h2⟩, b => by
    have b' : (D.bnd m d && Ds.bnd m ds) = true := b
    rw [Bool.and_eq_true] at b'
    exact ⟨v, r, e, Rep.cut d v h1 b'.1, Reps.cut ds r h2 b'.2⟩
end
def Fs.bnd (n : Nat) (fs : List (Nat × D)) : Bool := fs.all fun p => D.bnd n p.2
def Ob.bnd (n : Nat) : Ob → Bool
  | .dead => true
  | .lst xs => Ds.bnd n xs
  | .ins _ fs => fs.all fun p => D.bnd n p.2
  | .dk kvs => kvs.all fun p => D.bnd n p.2
  | .dt kvs => kvs.all fun p => D.bnd n p.2
/-- nothing of the store speaks of what is beyond it -/
def StB (M : Store) : Prop := ∀ o ∈ M, Ob.bnd M.length o = true
theorem RepF.bnd {K : PySem.W.Frag} {W : Wd} {H : Hp} : ∀ {ds : List (Nat × D)} {fs : List (PySem.Str × V)}, RepF K W H ds fs → (ds.all fun p => D.bnd W.ad.length p.2) = true
  | [], _, _ => rfl
  | (f, d) :: ds, _, ⟨v, r, _, h1, h2⟩ => by
    rw [List.all_cons, Rep.bnd d v h1, RepF.bnd h2]; rfl
theorem RepK.bnd {κ : Type} {K : PySem.W.Frag} {W : Wd} {H : Hp} : ∀ {ds : List (κ × D)} {fs : List (κ × V)}, RepK K W H ds fs → (ds.all fun p => D.bnd W.ad.length p.2) = true
  | [], _, _ => rfl
  | (f, d) :: ds, _, ⟨v, r, _, h1, h2⟩ => by
    rw [List.all_cons, Rep.bnd d v h1, RepK.bnd h2]; rfl
theorem RepF.cut {K : PySem.W.Frag} {W : Wd} {H : Hp} {m : Nat} : ∀ {ds : List (Nat × D)} {fs : List (PySem.Str × V)}, RepF K W H ds fs → (ds.all fun p => D.bnd m p.2) = true → RepF K { W with ad := W.ad.take m } H ds fs
  | [], _, h, _ => h
  | (f, d) :: ds, _, ⟨v, r, e, h1, h2⟩, b => by
    rw [List.all_cons, Bool.and_eq_true] at b
    exact ⟨v, r, e, Rep.cut d v h1 b.1, RepF.cut h2 b.2⟩
theorem RepK.cut {κ : Type} {K : PySem.W.Frag} {W : Wd} {H : Hp} {m : Nat} : ∀ {ds : List (κ × D)} {fs : List (κ × V)}, RepK K W H ds fs → (ds.all fun p => D.bnd m p.2) = true → RepK K { W with ad := W.ad.take m } H ds fs
  | [], _, h, _ => h
  | (f, d) :: ds, _, ⟨v, r, e, h1, h2⟩, b => by
    rw [List.all_cons, Bool.and_eq_true] at b
    exact ⟨v, r, e, Rep.cut d v h1 b.1, RepK.cut h2 b.2⟩
section
variable {g : Gd} {W W' : Wd} {H H' : Hp} {M N : Store}
theorem SR.stb (s : SR g W H M) : StB M := fun o ho => by
  obtain ⟨n, hn⟩ := List.mem_iff_getElem?.mp ho
  obtain ⟨a, _, r⟩ := s.at hn
  rw [← s.len]
  cases o with
  | dead => rfl
  | lst xs => obtain ⟨vs, _, r⟩ := r; exact Reps.bnd _ _ r
  | ins c fs => obtain ⟨_, _, _, r⟩ := r; exact RepF.bnd r
  | dk kvs => obtain ⟨_, _, r⟩ := r; exact RepK.bnd r
  | dt kvs => obtain ⟨_, _, r⟩ := r; exact RepK.bnd r
theorem SR.forget (s : SR g W H (M ++ N)) (b : StB M) : SR g { W with ad := W.ad.take M.length } H M := by
  refine s.drop fun n o hn a r => ?_
  have bo := b o (List.mem_of_getElem? hn)
  cases o with
  | dead => trivial
  | lst xs => obtain ⟨vs, h, r⟩ := r; exact ⟨vs, h, Reps.cut _ _ r bo⟩
  | ins c fs => obtain ⟨dx, fv, h, r⟩ := r; exact ⟨dx, fv, h, r.cut bo⟩
  | dk kvs => obtain ⟨ks, h, r⟩ := r; exact ⟨ks, h, r.cut bo⟩
  | dt kvs => obtain ⟨ks, h, r⟩ := r; exact ⟨ks, h, r.cut bo⟩
theorem Ext.forget {W₀ : Wd} {H₀ : Hp} {m : Nat} (e : Ext g.K W₀ H₀ W H) (h : W₀.ad.length ≤ m) : Ext g.K W₀ H₀ { W with ad := W.ad.take m } H :=
  ⟨⟨fun n a q => by
    show (W.ad.take m)[n]? = some a
    rw [List.getElem?_take_of_lt (Nat.lt_of_lt_of_le (List.getElem?_eq_some_iff.mp q).1 h)]
    exact e.ad n a q, e.fz, e.fl, e.tups, e.frzs, e.xds⟩, e.pr, e.pl⟩
end
theorem mem_lookupN : ∀ {l : List (Nat × D)} {f : Nat} {y : D}, l.lookup f = some y → (f, y) ∈ l
  | (g, d) :: r, f, y, h => by
    rw [List.lookup_cons] at h
    cases q : f == g with
    | true =>
      rw [q] at h
      cases h
      rw [beq_iff_eq] at q
      subst q
      exact List.mem_cons_self
    | false => rw [q] at h; exact List.mem_cons_of_mem _ (mem_lookupN h)
/-- the second is the first, with more objects at the end -/
def Cl (n : Nat) : Rs D → Rs D → Prop
  | some (.ok d M), r => n ≤ M.length ∧ StB M ∧ D.bnd M.length d = true ∧ ∃ N, r = some (.ok d (M ++ N))
  | some (.exc x M), r => n ≤ M.length ∧ StB M ∧ Fs.bnd M.length x.fs = true ∧ ∃ N, r = some (.exc x (M ++ N))
  | none, _ => True
/-- a contract stands for another one -/
def Cln (n : Nat) (C' C : Ctr) : Prop := ∀ ds M, ds.length = n → StB M → Ds.bnd M.length ds = true → Cl M.length (C' ds M) (C ds M)
theorem clean {g : Gd} {n : Nat} {C' C : Ctr} (h : Cln n C' C) : ∀ vs H Q E, spC g n C' vs H Q E → spC g n C vs H Q E := by
  rintro vs H Q E ⟨W, M, ds, hl, s, r, res⟩
  refine ⟨W, M, ds, hl, s, r, ?_⟩
  have c := h ds M hl s.stb (by rw [← s.len]; exact Reps.bnd _ _ r)
  cases q : C' ds M with
  | none => rw [q] at res; exact res.elim
  | some o =>
    rw [q] at res c
    cases o with
    | ok d M1 =>
      obtain ⟨c1, c2, c3, N, c4⟩ := c
      rw [c4]
      intro W' H' v e s' r'
      exact res { W' with ad := W'.ad.take M1.length } H' v (e.forget (by rw [s.len]; exact c1)) (s'.forget c2) (Rep.cut _ _ r' c3)
    | exc x M1 =>
      obtain ⟨c1, c2, c3, N, c4⟩ := c
      rw [c4]
      intro W' H' cls dd e s' r'
      refine res { W' with ad := W'.ad.take M1.length } H' cls dd (e.forget (by rw [s.len]; exact c1)) (s'.forget c2) ⟨r'.1, ?_⟩
      rcases r'.2 with z | ⟨d, fv, h1, h2, h3⟩
      · exact .inl z
      · refine .inr ⟨d, fv, h1, h2, fun f y hf => ?_⟩
        obtain ⟨v, h4, h5⟩ := h3 f y hf
        refine ⟨v, h4, Rep.cut _ _ h5 ?_⟩
        have : (f, y) ∈ x.fs := mem_lookupN hf
        exact List.all_eq_true.mp c3 _ this

/-! ### the law -/
def spLawM (K : PySem.W.Frag) : Sp := fun vs H Q _ => ∃ (a : Addr) (ns : List Int), vs = [.ref a] ∧ Only H ∧ SqL K H a (ns.map V.int) ∧ ns.length ≤ 63 ∧ ∀ H', Q (.bl true) H'
theorem law_mo {g : Gd} {C : Ctr} (hC : ∀ ns : List Int, ns.length ≤ 63 → ∃ M, C [.scr (ns.map D.int)] [] = some (.ok (.bl true) M)) : ∀ vs H Q E, spLawM g.K vs H Q E → spC g 1 C vs H Q E := by
  rintro vs H Q E ⟨a, ns, rfl, hO, hS, hl, k⟩
  obtain ⟨M, hM⟩ := hC ns hl
  refine ⟨⟨[], fun _ => False, fun _ => False⟩, [], [.scr (ns.map D.int)], rfl, ⟨rfl, List.nodup_nil, fun n o a h => by simp at h, fun n o a h => by simp at h, fun n a h => by simp at h, fun a h => h.elim, fun a h => h.elim⟩, .cons ⟨a, ns.map V.int, rfl, ?_, Reps.ints ns⟩ .nil, ?_⟩
  · rcases hS with (hS | hS) | hS
    · rcases hO a with z | ⟨o, xs, z⟩ <;> rw [hS] at z <;> cases z
    · exact .inl hS
    · exact .inr hS
  · rw [hM]
    intro W' H' v e s r
    cases r
    exact k H'
theorem walk_mo {l : PySem.W.OpenLaw} {k : Nat} {x : PySem.Str} {q : Program} {loose : List PySem.Str} {XP : (PySem.Str → Option Value) → Heap → Prop} {YP : World → Heap → Prop} {d : DefRec} {K : Params → PySem.W.Frag}
    (hn : l.most = some 63) (hdf : d.params.defaults = []) (hr : Room k callerA)
    (hY : ∀ (w : World) (h : Heap), YP w h → (K w.params).In h)
    (F : ∀ (w : World) (mg : PySem.Str → Option Value) (fa : Addr) (h : Heap), (K w.params).In h → h.Ns mainGlobals mg → mg d.name = some (.ref fa) →
      ∃ fd : FuncData, (∀ (s : Shared) (u : Value), BindsTo s fd ⟨[u], []⟩ [(x, u)]) ∧
        ∀ base : Heap, (K w.params).In base → base.Ns mainGlobals mg → FnOk l.prog w (K w.params) mg base (L2.CX l.prog w) k fa fd [x] (spLawM (K w.params))) :
    PySem.W.WalkO q loose XP YP l.row.toRowW d [] (fun f vs => PySem.call f vs) :=
  L2.walk_of (n := 63) (k := k) (x := x) (CX := fun w => L2.CX l.prog w) (sp := fun w => spLawM (K w.params)) hn (by decide) hdf hr hY F (fun w H a ns hl hO hS => ⟨a, ns, rfl, hO, hS, hl, fun _ => rfl⟩) fun w H s e s' h => by
    obtain ⟨_, _, _, _, _, _, _, _, _, _, _, _, z⟩ := h
    exact z.elim
end Mo
/-! Mo17: the facts, gathered. -/
namespace Mo
open PySem PySem.Spec L2
open PyProof.Rows hiding St

section
variable {ev : Ev} {P : Program} {w : World} {K : PySem.W.Frag} {mg : PySem.Str → Option Value} {base : Heap} {g : Gd}
def KnOk (ev : Ev) (P : Program) (w : World) (K : PySem.W.Frag) (mg : PySem.Str → Option Value) (base : Heap) (g : Gd) (f : Nat) : Kn → Prop
  | .fn x n k => ∃ C, ev.fn f = arC n C ∧ FnKn P w K mg base g x n k C
  | .mt c m n k => ∃ C, ev.fn f = arC n C ∧ MtKn P w K mg base g c m n k C
  | .mw c m k kw => ∃ C, ev.fn f = arC 3 C ∧ MwKn P w K mg base g c m k kw C
  | .pr c m k => ∃ C, ev.fn f = arC 1 C ∧ PrKn P w K mg base g c m k C
  | .mk x c n k => ∃ C, ev.fn f = arC n C ∧ MkKn P w K mg base g x c n k C
theorem get_snoc {α : Type} {l : List α} {a b : α} {i : Nat} (h : (l ++ [a])[i]? = some b) : l[i]? = some b ∨ (i = l.length ∧ b = a) := by
  by_cases hi : i < l.length
  · rw [List.getElem?_append_left hi] at h; exact .inl h
  · rw [List.getElem?_append_right (by omega)] at h
    cases q : i - l.length with
    | zero => rw [q] at h; exact .inr ⟨by omega, (Option.some.inj h).symm⟩
    | succ k => rw [q] at h; simp at h
theorem TOk.snoc {T : Tb} {kn : Kn} (h : TOk T ev P w K mg base g) (k : KnOk ev P w K mg base g T.fns.length kn) : TOk { T with fns := T.fns ++ [kn] } ev P w K mg base g :=
  { exn := h.exn, ex0 := h.ex0, exI := h.exI, tab := h.tab, xf := h.xf, xi := h.xi, xm := h.xm, na := h.na, glb := h.glb, bi := h.bi, tb := h.tb
    fn := fun f x n j e => by
      rcases get_snoc e with e | ⟨e, e2⟩
      · exact h.fn f x n j e
      · subst e; subst e2; exact k
    mt := fun f c m n j e => by
      rcases get_snoc e with e | ⟨e, e2⟩
      · exact h.mt f c m n j e
      · subst e; subst e2; exact k
    mw := fun f c m j kw e => by
      rcases get_snoc e with e | ⟨e, e2⟩
      · exact h.mw f c m j kw e
      · subst e; subst e2; exact k
    pr := fun f c m j e => by
      rcases get_snoc e with e | ⟨e, e2⟩
      · exact h.pr f c m j e
      · subst e; subst e2; exact k
    mk_ := fun f x c n j e => by
      rcases get_snoc e with e | ⟨e, e2⟩
      · exact h.mk_ f x c n j e
      · subst e; subst e2; exact k }
theorem all_nil {α : Type} {p : α → Prop} : ∀ x ∈ ([] : List α), p x := fun _ h => by cases h
theorem all_cons {α : Type} {p : α → Prop} {a : α} {l : List α} (h : p a) (t : ∀ x ∈ l, p x) : ∀ x ∈ a :: l, p x := fun x hx => by
  rcases List.mem_cons.mp hx with e | hx
  · exact e ▸ h
  · exact t x hx
/-- an exception class of the table -/
def ExOk (P : Program) (w : World) (K : PySem.W.Frag) (mg : PySem.Str → Option Value) (base : Heap) (g : Gd) (c : Nat) : PySem.Str × List Nat × Nat → Prop
  | (x, [], _) => ExKn K mg g x c
  | (x, f :: fs, k) => ExIn P w K mg base g x c (f :: fs) k
def exAll (P : Program) (w : World) (K : PySem.W.Frag) (mg : PySem.Str → Option Value) (base : Heap) (g : Gd) : Nat → List (PySem.Str × List Nat × Nat) → Prop
  | _, [] => True
  | c, e :: r => ExOk P w K mg base g c e ∧ exAll P w K mg base g (c + 1) r
theorem exAll_get : ∀ {l : List (PySem.Str × List Nat × Nat)} {c i : Nat} {e : PySem.Str × List Nat × Nat}, exAll P w K mg base g c l → l[i]? = some e → ExOk P w K mg base g (c + i) e
  | [], _, _, _, _, h => by simp at h
  | a :: r, c, 0, e, h, q => by
    simp at q
    subst q
    exact h.1
  | a :: r, c, i + 1, e, h, q => by
    have := exAll_get (i := i) h.2 (by simpa using q)
    rwa [show c + 1 + i = c + (i + 1) by omega] at this
/-- the pairs of classes -/
def tabAll (K : PySem.W.Frag) (g : Gd) (n : Nat) : Prop := ∀ i ∈ List.range n, ∀ h ∈ List.range n, PySem.W.exmOne K (.ref (g.ca i)) (.ref (g.ca h)) = some (catches h i)
theorem TOk.first {T : Tb} (hf : T.fns = []) (exn : ev.exn = T.exs.length) (exs : exAll P w K mg base g 0 T.exs) (tab : tabAll K g T.exs.length) (xf : ∀ i ∈ List.range T.exs.length, XfC K (g.ca i))
    (xm : ∀ m ∈ T.xm, ∀ i ∈ List.range T.exs.length, PySem.W.findIn K (.ref (g.ca i)) (nm m) = some none) (na : ∀ p ∈ T.na, Cls K (g.ca p.1) ∧ NoAttr K (g.ca p.1) (nm p.2)) (glb : ∀ p ∈ T.glb, GbKn K mg p.1 p.2) (bi : ∀ x ∈ T.bi, mg x = none) (xi : T.xi = true → ∀ i ∈ List.range T.exs.length, XiC K (g.ca i)) (tb : ∀ p ∈ T.tb, TbKn K w mg p.1 p.2) : TOk T ev P w K mg base g :=
  { fn := fun f x n k e => by rw [hf] at e; simp at e
    mt := fun f c m n k e => by rw [hf] at e; simp at e
    mw := fun f c m k kw e => by rw [hf] at e; simp at e
    pr := fun f c m k e => by rw [hf] at e; simp at e
    mk_ := fun f x c n k e => by rw [hf] at e; simp at e
    exn := exn
    ex0 := fun c x k e => by have := exAll_get exs e; rwa [Nat.zero_add] at this
    exI := fun c x f ks k e => by have := exAll_get exs e; rwa [Nat.zero_add] at this
    tab := fun i h hi hh => tab i (List.mem_range.mpr hi) h (List.mem_range.mpr hh)
    xf := fun i hi => xf i (List.mem_range.mpr hi)
    xi := fun h i hi => xi h i (List.mem_range.mpr hi)
    xm := fun i m hi hm => xm m hm i (List.mem_range.mpr hi)
    na := fun c f h => na (c, f) h
    glb := fun x d h => glb (x, d) h
    bi := bi
    tb := fun x kvs h => tb (x, kvs) h }
end
end Mo
/-! Mo18: the evaluator by rules for simp. -/
namespace Mo
open PySem PySem.Spec L2
open PyProof.Rows hiding St

/-- a turn of a for -/
noncomputable def forF (v : Ev) (t : Tg) (b : Ss) : D → Sl → Store → Option SO := fun x δ' M2 => bndS δ' (nox (evTg v t x δ' M2)) fun δ'' M3 => evSs v b δ'' M3
/-- a turn of a comprehension -/
noncomputable def compB (v : Ev) (own : List Nat) (t : Tg) (ifs : Es) (elt : E) (δ : Sl) : D → Store → Rs (List D) := fun x M2 => nox (bnd (evTg v t x (kill δ own) M2) fun δ' M3 => bnd (evIfs v ifs δ' M3) fun b M4 => if b = true then bnd (evE v elt δ' M4) fun d M5 => rok [d] M5 else rok [] M4)
noncomputable def comp2B (v : Ev) (t2 : Tg) (elt : E) (δ' : Sl) : D → Store → Rs (List D) := fun y M5 => bnd (evTg v t2 y (kill δ' t2.slots) M5) fun δ'' M6 => bnd (evE v elt δ'' M6) fun d M7 => rok [d] M7
noncomputable def comp2A (v : Ev) (own : List Nat) (t : Tg) (k2 : Ik) (es2 : Es) (t2 : Tg) (elt : E) (δ : Sl) : D → Store → Rs (List D) := fun x M2 => nox (bnd (evTg v t x (kill δ own) M2) fun δ' M3 => bnd (bnd (evEs v es2 δ' M3) fun ds2 M4 => itemsR k2 ds2 M4) fun it2 M4 => if it2.xs.length ≤ 4096 then compL it2.gd (comp2B v t2 elt δ') it2.xs M4 else none)
noncomputable def dcompB (v : Ev) (own : List Nat) (t : Tg) (ifs : Es) (kx vx : E) (n : Nat) (δ : Sl) : D → Store → Rs (List D) := fun x M2 => nox (bnd (evTg v t x (kill δ own) M2) fun δ' M3 => bnd (evIfs v ifs δ' M3) fun b M4 => if b = true then bnd (evE v kx δ' M4) fun kd M5 => bnd (evE v vx δ' M5) fun d M6 => putR n kd d M6 else rok [] M4)
def kDc (n : Nat) (_ : List D) (M : Store) : Rs D := rok (.oid n) M
noncomputable def kDcomp (v : Ev) (own : List Nat) (t : Tg) (ifs : Es) (kx vx : E) (δ : Sl) (it : Items) (M : Store) : Rs D := if it.xs.length ≤ line then bnd (compL it.gd (dcompB v own t ifs kx vx M.length δ) it.xs (M ++ [.dk []])) (kDc M.length) else none
/-- one after the other -/
def sq (o : Option SO) (k : Sl → Store → Option SO) : Option SO := match o with
  | some (.nx δ' M') => k δ' M'
  | o => o
def outF (o : Option SO) : Rs D := match o with
  | some (.nx _ M') => rok .non M'
  | some (.rt d M') => rok d M'
  | some (.exc x _ M') => some (.exc x M')
  | _ => none
def tryF (n : Nat) (o : Option SO) (k : Exn → Sl → Store → Option SO) : Option SO := match o with
  | some (.exc x δ' M') => if x.cls < n then k x δ' M' else none
  | r => r
/-! #### what comes behind, by name: simp does not look into it before its turn -/
noncomputable def kOp (p : Pr) (m : Bool) (ds : List D) (M : Store) : Rs D := po m M (prim p ds M)
def kTup (ds : List D) (M : Store) : Rs D := if ds.length ≤ line then rok (.tup ds) M else none
def kLst (m : Bool) (ds : List D) (M : Store) : Rs D := if ds.length ≤ line then some (mk m ds M) else none
noncomputable def tAnd (v : Ev) (b : E) (δ : Sl) (d : D) (M : Store) : Option Bool → Rs D
  | some true => evE v b δ M
  | some false => rok d M
  | none => none
noncomputable def kAnd (v : Ev) (b : E) (δ : Sl) (d : D) (M : Store) : Rs D := tAnd v b δ d M (truth M d)
noncomputable def tOr (v : Ev) (b : E) (δ : Sl) (d : D) (M : Store) : Option Bool → Rs D
  | some true => rok d M
  | some false => evE v b δ M
  | none => none
noncomputable def kOr (v : Ev) (b : E) (δ : Sl) (d : D) (M : Store) : Rs D := tOr v b δ d M (truth M d)
def tNot (M : Store) : Option Bool → Rs D
  | some b => rok (.bl (!b)) M
  | none => none
def kNot (d : D) (M : Store) : Rs D := tNot M (truth M d)
noncomputable def tIte (v : Ev) (a b : E) (δ : Sl) (M : Store) : Option Bool → Rs D
  | some true => evE v a δ M
  | some false => evE v b δ M
  | none => none
noncomputable def kIte (v : Ev) (a b : E) (δ : Sl) (d : D) (M : Store) : Rs D := tIte v a b δ M (truth M d)
def kCall (v : Ev) (f : Nat) (ds : List D) (M : Store) : Rs D := v.fn f ds M
noncomputable def kMeth2 (p : Pr) (m : Bool) (d : D) (ds : List D) (M : Store) : Rs D := po m M (prim p (d :: ds) M)
noncomputable def kMeth (v : Ev) (p : Pr) (m : Bool) (es : Es) (δ : Sl) (d : D) (M : Store) : Rs D := if recv p M d = true then bnd (evEs v es δ M) (kMeth2 p m d) else none
def kMcall2 (v : Ev) (f n : Nat) (ds : List D) (M : Store) : Rs D := v.fn f (.oid n :: ds) M
noncomputable def tMcall (v : Ev) (c f m n : Nat) (es : Es) (δ : Sl) (M : Store) : Option Ob → Rs D
  | some (.ins c' fs) => if c' = c ∧ fs.lookup m = none then bnd (evEs v es δ M) (kMcall2 v f n) else none
  | _ => none
noncomputable def kMcall (v : Ev) (c f m : Nat) (es : Es) (δ : Sl) (d : D) (M : Store) : Rs D := match d with
  | .oid n => tMcall v c f m n es δ M M[n]?
  | _ => none
def tProp (v : Ev) (c f n : Nat) (M : Store) : Option Ob → Rs D
  | some (.ins c' _) => if c' = c then nox (v.fn f [.oid n] M) else none
  | _ => none
def kProp (v : Ev) (c f : Nat) (d : D) (M : Store) : Rs D := match d with
  | .oid n => tProp v c f n M M[n]?
  | _ => none
def kMake2 (n : Nat) (d : D) (M : Store) : Rs D := match d with
  | .non => rok (.oid n) M
  | _ => none
def kMake (v : Ev) (c f : Nat) (ds : List D) (M : Store) : Rs D := bnd (v.fn f (.oid M.length :: ds) (M ++ [.ins c []])) (kMake2 M.length)
def tFld2 (M : Store) : Option D → Rs D
  | some y => rok y M
  | none => none
def tFld (c f : Nat) (M : Store) : Option Ob → Rs D
  | some (.ins c' fs) => if c' = c then tFld2 M (fs.lookup f) else none
  | _ => none
def kFld (c f : Nat) (d : D) (M : Store) : Rs D := match d with
  | .oid n => tFld c f M M[n]?
  | _ => none
def kSl3c (m : Bool) (d : D) (i : Int) (d3 : D) (M : Store) : Rs D := match d3 with
  | .int j => po m M (slice M d (some i) (some j))
  | _ => none
noncomputable def kSl3b (v : Ev) (m : Bool) (c : E) (δ : Sl) (d : D) (d2 : D) (M : Store) : Rs D := match d2 with
  | .int i => bnd (evE v c δ M) (kSl3c m d i)
  | _ => none
noncomputable def kSl3 (v : Ev) (m : Bool) (b c : E) (δ : Sl) (d : D) (M : Store) : Rs D := bnd (evE v b δ M) (kSl3b v m c δ d)
def tChn2 : Option PO → Rs D
  | some (.v d M) => rok d M
  | _ => none
noncomputable def kChn3 (q : Pr) (d2 d3 : D) (M : Store) : Rs D := tChn2 (prim q [d2, d3] M)
noncomputable def tChn (v : Ev) (q : Pr) (c : E) (δ : Sl) (d2 : D) : Option PO → Rs D
  | some (.v (.bl true) M) => bnd (evE v c δ M) (kChn3 q d2)
  | some (.v (.bl false) M) => rok (.bl false) M
  | _ => none
noncomputable def kChn2 (v : Ev) (p q : Pr) (c : E) (δ : Sl) (d1 d2 : D) (M : Store) : Rs D := tChn v q c δ d2 (prim p [d1, d2] M)
noncomputable def kChn (v : Ev) (p q : Pr) (b c : E) (δ : Sl) (d1 : D) (M : Store) : Rs D := bnd (evE v b δ M) (kChn2 v p q c δ d1)
def tFrz (n : Nat) (M : Store) : Option Ob → Rs D
  | some (.lst xs) => rok (.lst xs) (M.set n .dead)
  | _ => none
def kFrz (d : D) (M : Store) : Rs D := match d with
  | .oid n => tFrz n M M[n]?
  | _ => none
def tDisp2 (n : Nat) (M : Store) : Option Ob → Option (List (Key × D)) → Rs D
  | some (.dk []), some kvs => if kvs.length ≤ 15 then rok (.oid n) (M.set n (.dk (dispK kvs))) else none
  | _, _ => none
def kDisp (n : Nat) (ds : List D) (M : Store) : Rs D := tDisp2 n M M[n]? (prsK ds)
noncomputable def kItems (k : Ik) (ds : List D) (M : Store) : Rs Items := itemsR k ds M
def kMk (m : Bool) (zs : List D) (M : Store) : Rs D := some (mk m zs M)
noncomputable def kComp (m : Bool) (b : D → Store → Rs (List D)) (it : Items) (M : Store) : Rs D := if it.xs.length ≤ line then bnd (compL it.gd b it.xs M) (kMk m) else none
noncomputable def kComp2 (m : Bool) (b : D → Store → Rs (List D)) (it : Items) (M : Store) : Rs D := if it.xs.length ≤ 4096 then bnd (compL it.gd b it.xs M) (kMk m) else none
def kCns2 (d : D) (ds : List D) (M : Store) : Rs (List D) := rok (d :: ds) M
noncomputable def kCns (v : Ev) (es : Es) (δ : Sl) (d : D) (M : Store) : Rs (List D) := bnd (evEs v es δ M) (kCns2 d)
noncomputable def tIfs (v : Ev) (es : Es) (δ : Sl) (M : Store) : Option Bool → Rs Bool
  | some true => evIfs v es δ M
  | some false => rok false M
  | none => none
noncomputable def kIfs (v : Ev) (es : Es) (δ : Sl) (d : D) (M : Store) : Rs Bool := tIfs v es δ M (truth M d)
noncomputable def tTup (v : Ev) (ts : Tgs) (δ : Sl) (M : Store) : Option (List D) → Rs Sl
  | some xs => if xs.length = ts.len then evTgs v ts xs δ M else none
  | none => none
def tSubb (δ : Sl) (n : Nat) (k : Int) (y : D) (M : Store) : Option Ob → Rs Sl
  | some (.lst xs) => match ixN xs.length k with
    | some j => rok δ (M.set n (.lst (xs.set j y)))
    | none => none
  | _ => none
def kSub2 (y : D) (δ : Sl) (d1 d2 : D) (M : Store) : Rs Sl := match d1, d2 with
  | .oid n, .int k => tSubb δ n k y M M[n]?
  | _, _ => none
noncomputable def kSub (v : Ev) (i : E) (y : D) (δ : Sl) (d1 : D) (M : Store) : Rs Sl := bnd (evE v i δ M) (kSub2 y δ d1)
def tDsub (δ : Sl) : Option Store → Rs Sl
  | some M => rok δ M
  | none => none
def kDsub2 (y : D) (δ : Sl) (d1 d2 : D) (M : Store) : Rs Sl := match d1 with
  | .oid n => tDsub δ (setD M n d2 y)
  | _ => none
noncomputable def kDsub (v : Ev) (i : E) (y : D) (δ : Sl) (d1 : D) (M : Store) : Rs Sl := bnd (evE v i δ M) (kDsub2 y δ d1)
def kSlc4 (i j : Int) (δ : Sl) (n m : Nat) (M : Store) : Option Ob → Option Ob → Rs Sl
  | some (.lst xs), some (.lst ys) => if n ≠ m ∧ 0 ≤ i ∧ i ≤ j ∧ j ≤ (xs.length : Int) ∧ xs.length + ys.length ≤ line then rok δ (M.set n (.lst (xs.take i.toNat ++ ys ++ xs.drop j.toNat))) else none
  | _, _ => none
def kSlc3 (d1 : D) (i : Int) (y : D) (δ : Sl) (d3 : D) (M : Store) : Rs Sl := match d1, d3, y with
  | .oid n, .int j, .oid m => kSlc4 i j δ n m M M[n]? M[m]?
  | _, _, _ => none
noncomputable def kSlc2 (v : Ev) (b : E) (y : D) (δ : Sl) (d1 d2 : D) (M : Store) : Rs Sl := match d2 with
  | .int i => bnd (evE v b δ M) (kSlc3 d1 i y δ)
  | _ => none
noncomputable def kSlc (v : Ev) (a b : E) (y : D) (δ : Sl) (d1 : D) (M : Store) : Rs Sl := bnd (evE v a δ M) (kSlc2 v b y δ d1)
def tAtt (c f : Nat) (y : D) (δ : Sl) (n : Nat) (M : Store) : Option Ob → Rs Sl
  | some (.ins c' fs) => if c' = c ∧ fs.length < 1000 then rok δ (M.set n (.ins c (setF f y fs))) else none
  | _ => none
def kAtt (c f : Nat) (y : D) (δ : Sl) (d : D) (M : Store) : Rs Sl := match d with
  | .oid n => tAtt c f y δ n M M[n]?
  | _ => none
noncomputable def kTgs (v : Ev) (ts : Tgs) (r : List D) (δ : Sl) (M : Store) : Rs Sl := evTgs v ts r δ M
def kNx (δ : Sl) (M : Store) : Option SO := some (.nx δ M)
def kExp (δ : Sl) (_ : D) (M : Store) : Option SO := some (.nx δ M)
noncomputable def kAsg (v : Ev) (t : Tg) (δ : Sl) (d : D) (M : Store) : Option SO := bndS δ (nox (evTg v t d δ M)) kNx
def kPar2 (i j : Nat) (δ : Sl) (d e : D) (M : Store) : Option SO := some (.nx ((δ.set i (some d)).set j (some e)) M)
noncomputable def kPar (v : Ev) (i j : Nat) (b : E) (δ : Sl) (d : D) (M : Store) : Option SO := bndS δ (evE v b δ M) (kPar2 i j δ d)
def kRet (d : D) (M : Store) : Option SO := some (.rt d M)
noncomputable def kIf (v : Ev) (a b : Ss) (δ : Sl) (t : Bool) (M : Store) : Option SO := if t = true then evSs v a δ M else evSs v b δ M
noncomputable def kFor (kl : List Nat) (F : D → Sl → Store → Option SO) (δ : Sl) (it : Items) (M : Store) : Option SO := forL it.gd kl F it.xs δ M
def kRaise (c : Nat) (ks : List Nat) (δ : Sl) (ds : List D) (M : Store) : Option SO := if ds.length = ks.length then some (.exc ⟨c, ks.zip ds⟩ δ M) else none
noncomputable def kSs (v : Ev) (r : Ss) (δ : Sl) (M : Store) : Option SO := evSs v r δ M
noncomputable def kHs (v : Ev) (hs : Hs) (x : Exn) (δ : Sl) (M : Store) : Option SO := evHs v hs x δ M
def tTst (M : Store) : Option Bool → Rs Bool
  | some b => rok b M
  | none => none
def kTst (d : D) (M : Store) : Rs Bool := tTst M (truth M d)
def kKil (is : List Nat) (δ : Sl) (M : Store) : Option SO := some (.nx (kill δ is) M)
section
variable {δ : Sl} {M : Store} {k : Sl → Store → Option SO}
@[simp] theorem sq_nx : sq (some (.nx δ M)) k = k δ M := rfl
@[simp] theorem sq_rt (d : D) : sq (some (.rt d M)) k = some (.rt d M) := rfl
@[simp] theorem sq_bk : sq (some (.bk δ M)) k = some (.bk δ M) := rfl
@[simp] theorem sq_ct : sq (some (.ct δ M)) k = some (.ct δ M) := rfl
@[simp] theorem sq_exc (x : Exn) : sq (some (.exc x δ M)) k = some (.exc x δ M) := rfl
@[simp] theorem sq_none : sq none k = none := rfl
@[simp] theorem sq_ite (p : Prop) [Decidable p] (a b : Option SO) : sq (if p then a else b) k = if p then sq a k else sq b k := by split <;> rfl
@[simp] theorem bnd_ite {α β : Type} (p : Prop) [Decidable p] (a b : Rs α) (k : α → Store → Rs β) : bnd (if p then a else b) k = if p then bnd a k else bnd b k := by split <;> rfl
@[simp] theorem bndS_ite {α : Type} (p : Prop) [Decidable p] (a b : Rs α) (k : α → Store → Option SO) : bndS δ (if p then a else b) k = if p then bndS δ a k else bndS δ b k := by split <;> rfl
@[simp] theorem outF_nx : outF (some (.nx δ M)) = some (.ok .non M) := rfl
@[simp] theorem outF_rt (d : D) : outF (some (.rt d M)) = some (.ok d M) := rfl
@[simp] theorem outF_exc (x : Exn) : outF (some (.exc x δ M)) = some (.exc x M) := rfl
@[simp] theorem outF_ite (p : Prop) [Decidable p] (a b : Option SO) : outF (if p then a else b) = if p then outF a else outF b := by split <;> rfl
@[simp] theorem tryF_nx (n : Nat) (k : Exn → Sl → Store → Option SO) : tryF n (some (.nx δ M)) k = some (.nx δ M) := rfl
@[simp] theorem tryF_rt (n : Nat) (d : D) (k : Exn → Sl → Store → Option SO) : tryF n (some (.rt d M)) k = some (.rt d M) := rfl
@[simp] theorem tryF_exc (n : Nat) (x : Exn) (k : Exn → Sl → Store → Option SO) : tryF n (some (.exc x δ M)) k = if x.cls < n then k x δ M else none := rfl
@[simp] theorem tryF_ite (n : Nat) (p : Prop) [Decidable p] (a b : Option SO) (k : Exn → Sl → Store → Option SO) : tryF n (if p then a else b) k = if p then tryF n a k else tryF n b k := by split <;> rfl
theorem evF_eq (v : Ev) (n : Nat) (b : Ss) (ds : List D) (M : Store) : evF v n b ds M = outF (evSs v b (ds.map some ++ List.replicate (n - ds.length) none) M) := by
  unfold evF outF
  cases evSs v b (ds.map some ++ List.replicate (n - ds.length) none) M with
  | none => rfl
  | some o => cases o <;> rfl
@[simp] theorem nox_ite {α : Type} (p : Prop) [Decidable p] (a b : Rs α) : nox (if p then a else b) = if p then nox a else nox b := by split <;> rfl
@[simp] theorem kOp_eq (p : Pr) (m : Bool) (ds : List D) : kOp p m ds M = po m M (prim p ds M) := rfl
@[simp] theorem kTup_eq (ds : List D) : kTup ds M = if ds.length ≤ line then rok (.tup ds) M else none := rfl
@[simp] theorem kLst_eq (m : Bool) (ds : List D) : kLst m ds M = if ds.length ≤ line then some (mk m ds M) else none := rfl
end
section
variable {v : Ev} {δ : Sl} {M : Store} {d : D} {a b : E}
@[simp] theorem tAnd_t : tAnd v b δ d M (some true) = evE v b δ M := rfl
@[simp] theorem tAnd_f : tAnd v b δ d M (some false) = some (.ok d M) := rfl
@[simp] theorem tAnd_d (p : Prop) [Decidable p] : tAnd v b δ (.bl (decide p)) M (some (decide p)) = if p then evE v b δ M else some (.ok (.bl false) M) := by
  by_cases h : p <;> simp [h]
@[simp] theorem tAnd_nd (p : Prop) [Decidable p] : tAnd v b δ (.bl (!decide p)) M (some (!decide p)) = if p then some (.ok (.bl false) M) else evE v b δ M := by
  by_cases h : p <;> simp [h]
@[simp] theorem kAnd_eq : kAnd v b δ d M = tAnd v b δ d M (truth M d) := rfl
@[simp] theorem tOr_t : tOr v b δ d M (some true) = some (.ok d M) := rfl
@[simp] theorem tOr_f : tOr v b δ d M (some false) = evE v b δ M := rfl
@[simp] theorem tOr_d (p : Prop) [Decidable p] : tOr v b δ (.bl (decide p)) M (some (decide p)) = if p then some (.ok (.bl true) M) else evE v b δ M := by
  by_cases h : p <;> simp [h]
@[simp] theorem tOr_nd (p : Prop) [Decidable p] : tOr v b δ (.bl (!decide p)) M (some (!decide p)) = if p then evE v b δ M else some (.ok (.bl true) M) := by
  by_cases h : p <;> simp [h]
@[simp] theorem kOr_eq : kOr v b δ d M = tOr v b δ d M (truth M d) := rfl
@[simp] theorem tNot_eq (p : Bool) : tNot M (some p) = some (.ok (.bl (!p)) M) := rfl
@[simp] theorem kNot_eq : kNot d M = tNot M (truth M d) := rfl
@[simp] theorem tIte_t : tIte v a b δ M (some true) = evE v a δ M := rfl
@[simp] theorem tIte_f : tIte v a b δ M (some false) = evE v b δ M := rfl
@[simp] theorem tIte_d (p : Prop) [Decidable p] : tIte v a b δ M (some (decide p)) = if p then evE v a δ M else evE v b δ M := by
  by_cases h : p <;> simp [h]
@[simp] theorem tIte_nd (p : Prop) [Decidable p] : tIte v a b δ M (some (!decide p)) = if p then evE v b δ M else evE v a δ M := by
  by_cases h : p <;> simp [h]
@[simp] theorem kIte_eq : kIte v a b δ d M = tIte v a b δ M (truth M d) := rfl
@[simp] theorem kCall_eq (f : Nat) (ds : List D) : kCall v f ds M = v.fn f ds M := rfl
@[simp] theorem kMeth_eq (p : Pr) (m : Bool) (es : Es) : kMeth v p m es δ d M = if recv p M d = true then bnd (evEs v es δ M) (kMeth2 p m d) else none := rfl
@[simp] theorem kMeth2_eq (p : Pr) (m : Bool) (ds : List D) : kMeth2 p m d ds M = po m M (prim p (d :: ds) M) := rfl
@[simp] theorem kMcall_eq (c f m n : Nat) (es : Es) : kMcall v c f m es δ (.oid n) M = tMcall v c f m n es δ M M[n]? := rfl
@[simp] theorem tMcall_eq (c f m n : Nat) (es : Es) (c' : Nat) (fs : List (Nat × D)) : tMcall v c f m n es δ M (some (.ins c' fs)) = if c' = c ∧ fs.lookup m = none then bnd (evEs v es δ M) (kMcall2 v f n) else none := rfl
@[simp] theorem kMcall2_eq (f n : Nat) (ds : List D) : kMcall2 v f n ds M = v.fn f (.oid n :: ds) M := rfl
@[simp] theorem kProp_eq (c f n : Nat) : kProp v c f (.oid n) M = tProp v c f n M M[n]? := rfl
@[simp] theorem tProp_eq (c f n c' : Nat) (fs : List (Nat × D)) : tProp v c f n M (some (.ins c' fs)) = if c' = c then nox (v.fn f [.oid n] M) else none := rfl
@[simp] theorem kMake_eq (c f : Nat) (ds : List D) : kMake v c f ds M = bnd (v.fn f (.oid M.length :: ds) (M ++ [.ins c []])) (kMake2 M.length) := rfl
@[simp] theorem kMake2_eq (n : Nat) : kMake2 n .non M = some (.ok (.oid n) M) := rfl
@[simp] theorem kFld_eq (c f n : Nat) : kFld c f (.oid n) M = tFld c f M M[n]? := rfl
@[simp] theorem tFld_eq (c f c' : Nat) (fs : List (Nat × D)) : tFld c f M (some (.ins c' fs)) = if c' = c then tFld2 M (fs.lookup f) else none := rfl
@[simp] theorem tFld2_eq (y : D) : tFld2 M (some y) = some (.ok y M) := rfl
@[simp] theorem kSl3_eq (m : Bool) (c : E) : kSl3 v m b c δ d M = bnd (evE v b δ M) (kSl3b v m c δ d) := rfl
@[simp] theorem kSl3b_eq (m : Bool) (c : E) (i : Int) : kSl3b v m c δ d (.int i) M = bnd (evE v c δ M) (kSl3c m d i) := rfl
@[simp] theorem kSl3c_eq (m : Bool) (i j : Int) : kSl3c m d i (.int j) M = po m M (slice M d (some i) (some j)) := rfl
@[simp] theorem kChn_eq (p q : Pr) (c : E) : kChn v p q b c δ d M = bnd (evE v b δ M) (kChn2 v p q c δ d) := rfl
@[simp] theorem kChn2_eq (p q : Pr) (c : E) (d2 : D) : kChn2 v p q c δ d d2 M = tChn v q c δ d2 (prim p [d, d2] M) := rfl
@[simp] theorem tChn_t (q : Pr) (c : E) : tChn v q c δ d (some (.v (.bl true) M)) = bnd (evE v c δ M) (kChn3 q d) := rfl
@[simp] theorem tChn_f (q : Pr) (c : E) : tChn v q c δ d (some (.v (.bl false) M)) = some (.ok (.bl false) M) := rfl
@[simp] theorem tChn_d (q : Pr) (c : E) (p : Prop) [Decidable p] : tChn v q c δ d (some (.v (.bl (decide p)) M)) = if p then bnd (evE v c δ M) (kChn3 q d) else some (.ok (.bl false) M) := by
  by_cases h : p <;> simp [h]
@[simp] theorem kChn3_eq (q : Pr) (d2 : D) : kChn3 q d d2 M = tChn2 (prim q [d, d2] M) := rfl
@[simp] theorem tChn2_eq : tChn2 (some (.v d M)) = some (.ok d M) := rfl
@[simp] theorem kFrz_eq (n : Nat) : kFrz (.oid n) M = tFrz n M M[n]? := rfl
@[simp] theorem tFrz_eq (n : Nat) (xs : List D) : tFrz n M (some (.lst xs)) = some (.ok (.lst xs) (M.set n .dead)) := rfl
@[simp] theorem kItems_eq (k : Ik) (ds : List D) : kItems k ds M = itemsR k ds M := rfl
@[simp] theorem kMk_eq (m : Bool) (zs : List D) : kMk m zs M = some (mk m zs M) := rfl
@[simp] theorem kComp_eq (m : Bool) (b : D → Store → Rs (List D)) (it : Items) : kComp m b it M = if it.xs.length ≤ line then bnd (compL it.gd b it.xs M) (kMk m) else none := rfl
@[simp] theorem kComp2_eq (m : Bool) (b : D → Store → Rs (List D)) (it : Items) : kComp2 m b it M = if it.xs.length ≤ 4096 then bnd (compL it.gd b it.xs M) (kMk m) else none := rfl
@[simp] theorem kCns_eq (es : Es) : kCns v es δ d M = bnd (evEs v es δ M) (kCns2 d) := rfl
@[simp] theorem kCns2_eq (ds : List D) : kCns2 d ds M = some (.ok (d :: ds) M) := rfl
@[simp] theorem tIfs_t (es : Es) : tIfs v es δ M (some true) = evIfs v es δ M := rfl
@[simp] theorem tIfs_f (es : Es) : tIfs v es δ M (some false) = some (.ok false M) := rfl
@[simp] theorem tIfs_d (es : Es) (p : Prop) [Decidable p] : tIfs v es δ M (some (decide p)) = if p then evIfs v es δ M else some (.ok false M) := by
  by_cases h : p <;> simp [h]
@[simp] theorem tIfs_nd (es : Es) (p : Prop) [Decidable p] : tIfs v es δ M (some (!decide p)) = if p then some (.ok false M) else evIfs v es δ M := by
  by_cases h : p <;> simp [h]
@[simp] theorem kIfs_eq (es : Es) : kIfs v es δ d M = tIfs v es δ M (truth M d) := rfl
@[simp] theorem tTup_eq (ts : Tgs) (xs : List D) : tTup v ts δ M (some xs) = if xs.length = ts.len then evTgs v ts xs δ M else none := rfl
@[simp] theorem kSub_eq (i : E) (y : D) : kSub v i y δ d M = bnd (evE v i δ M) (kSub2 y δ d) := rfl
@[simp] theorem kSub2_eq (y : D) (n : Nat) (k : Int) : kSub2 y δ (.oid n) (.int k) M = tSubb δ n k y M M[n]? := rfl
@[simp] theorem tSubb_eq (n : Nat) (k : Int) (y : D) (xs : List D) : tSubb δ n k y M (some (.lst xs)) = match ixN xs.length k with
    | some j => rok δ (M.set n (.lst (xs.set j y)))
    | none => none := rfl
@[simp] theorem kDsub_eq (i : E) (y : D) : kDsub v i y δ d M = bnd (evE v i δ M) (kDsub2 y δ d) := rfl
@[simp] theorem kDsub2_eq (y d2 : D) (n : Nat) : kDsub2 y δ (.oid n) d2 M = tDsub δ (setD M n d2 y) := rfl
@[simp] theorem tDsub_eq : tDsub δ (some M) = some (.ok δ M) := rfl
@[simp] theorem kAtt_eq (c f n : Nat) (y : D) : kAtt c f y δ (.oid n) M = tAtt c f y δ n M M[n]? := rfl
@[simp] theorem tAtt_eq (c f n c' : Nat) (y : D) (fs : List (Nat × D)) : tAtt c f y δ n M (some (.ins c' fs)) = if c' = c ∧ fs.length < 1000 then some (.ok δ (M.set n (.ins c (setF f y fs)))) else none := rfl
@[simp] theorem kTgs_eq (ts : Tgs) (r : List D) : kTgs v ts r δ M = evTgs v ts r δ M := rfl
@[simp] theorem kNx_eq : kNx δ M = some (.nx δ M) := rfl
@[simp] theorem kExp_eq : kExp δ d M = some (.nx δ M) := rfl
@[simp] theorem kAsg_eq (t : Tg) : kAsg v t δ d M = bndS δ (nox (evTg v t d δ M)) kNx := rfl
@[simp] theorem kPar_eq (i j : Nat) : kPar v i j b δ d M = bndS δ (evE v b δ M) (kPar2 i j δ d) := rfl
@[simp] theorem kPar2_eq (i j : Nat) (e : D) : kPar2 i j δ d e M = some (.nx ((δ.set i (some d)).set j (some e)) M) := rfl
@[simp] theorem kRet_eq : kRet d M = some (.rt d M) := rfl
@[simp] theorem kIf_t (a b : Ss) : kIf v a b δ true M = evSs v a δ M := rfl
@[simp] theorem kIf_f (a b : Ss) : kIf v a b δ false M = evSs v b δ M := rfl
@[simp] theorem kIf_d (a b : Ss) (p : Prop) [Decidable p] : kIf v a b δ (decide p) M = if p then evSs v a δ M else evSs v b δ M := by
  by_cases h : p <;> simp [h]
@[simp] theorem kIf_nd (a b : Ss) (p : Prop) [Decidable p] : kIf v a b δ (!decide p) M = if p then evSs v b δ M else evSs v a δ M := by
  by_cases h : p <;> simp [h]
@[simp] theorem kFor_eq (kl : List Nat) (F : D → Sl → Store → Option SO) (it : Items) : kFor kl F δ it M = forL it.gd kl F it.xs δ M := rfl
@[simp] theorem kRaise_eq (c : Nat) (ks : List Nat) (ds : List D) : kRaise c ks δ ds M = if ds.length = ks.length then some (.exc ⟨c, ks.zip ds⟩ δ M) else none := rfl
@[simp] theorem kSs_eq (r : Ss) : kSs v r δ M = evSs v r δ M := rfl
@[simp] theorem kHs_eq (hs : Hs) (x : Exn) : kHs v hs x δ M = evHs v hs x δ M := rfl
@[simp] theorem kTst_eq : kTst d M = tTst M (truth M d) := rfl
@[simp] theorem tTst_eq (p : Bool) : tTst M (some p) = some (.ok p M) := rfl
@[simp] theorem kKil_eq (is : List Nat) : kKil is δ M = some (.nx (kill δ is) M) := rfl
end
section
variable {v : Ev} {δ : Sl} {M : Store}
@[simp] theorem evE_var (i : Nat) : evE v (.var i) δ M = match δ[i]? with
    | some (some d) => if isExr d = true then none else rok d M
    | _ => none := by rw [evE] <;> rfl
@[simp] theorem evE_lit (d : D) : evE v (.lit d) δ M = some (.ok d M) := by rw [evE]
@[simp] theorem evE_glb (x : PySem.Str) (d : D) : evE v (.glb x d) δ M = some (.ok d M) := by rw [evE]
@[simp] theorem evE_op (p : Pr) (m : Bool) (es : Es) : evE v (.op p m es) δ M = bnd (evEs v es δ M) (kOp p m) := by rw [evE] <;> rfl
@[simp] theorem evE_tup (es : Es) : evE v (.tup es) δ M = bnd (evEs v es δ M) kTup := by rw [evE] <;> rfl
@[simp] theorem evE_lst (m : Bool) (es : Es) : evE v (.lst m es) δ M = bnd (evEs v es δ M) (kLst m) := by rw [evE] <;> rfl
theorem tAnd_fn {b : E} {d : D} {M : Store} {o : Option Bool} : tAnd v b δ d M o = (match o with
    | some true => evE v b δ M
    | some false => rok d M
    | none => none) := by
  cases o with
  | none => rfl
  | some p => cases p <;> rfl
@[simp] theorem evE_and (a b : E) : evE v (.andE a b) δ M = bnd (evE v a δ M) (kAnd v b δ) := by
  rw [evE] <;> rfl
@[simp] theorem evE_or (a b : E) : evE v (.orE a b) δ M = bnd (evE v a δ M) (kOr v b δ) := by
  rw [evE] <;> rfl
@[simp] theorem evE_not (a : E) : evE v (.notE a) δ M = bnd (evE v a δ M) kNot := by
  rw [evE] <;> rfl
@[simp] theorem evE_ite (c a b : E) : evE v (.ite c a b) δ M = bnd (evE v c δ M) (kIte v a b δ) := by
  rw [evE] <;> rfl
@[simp] theorem evE_call (f : Nat) (es : Es) : evE v (.call f es) δ M = bnd (evEs v es δ M) (kCall v f) := by rw [evE] <;> rfl
@[simp] theorem evE_meth (p : Pr) (m : Bool) (o : E) (es : Es) : evE v (.meth p m o es) δ M = bnd (evE v o δ M) (kMeth v p m es δ) := by rw [evE] <;> rfl
@[simp] theorem evE_mcall (c f m : Nat) (o : E) (es : Es) : evE v (.mcall c f m o es) δ M = bnd (evE v o δ M) (kMcall v c f m es δ) := by
  rw [evE] <;> rfl
@[simp] theorem evE_prop (c f : Nat) (o : E) : evE v (.prop c f o) δ M = bnd (evE v o δ M) (kProp v c f) := by
  rw [evE] <;> rfl
@[simp] theorem evE_make (c f : Nat) (es : Es) : evE v (.make c f es) δ M = bnd (evEs v es δ M) (kMake v c f) := by
  rw [evE] <;> rfl
@[simp] theorem evE_fld (c : Nat) (e : E) (f : Nat) : evE v (.fld c e f) δ M = bnd (evE v e δ M) (kFld c f) := by
  rw [evE] <;> rfl
@[simp] theorem evE_sl3 (m : Bool) (a b c : E) : evE v (.sl3 m a b c) δ M = bnd (evE v a δ M) (kSl3 v m b c δ) := by
  rw [evE] <;> rfl
noncomputable def kTab2 (q : Tq) (kvs : List (PySem.Str × D)) (k : D) (y : D) (M : Store) : Rs D := tabR q kvs k y M
noncomputable def kTab (v : Ev) (q : Tq) (kvs : List (PySem.Str × D)) (d : E) (δ : Sl) (k : D) (M : Store) : Rs D := if q = .get2 then bnd (evE v d δ M) (kTab2 q kvs k) else tabR q kvs k .non M
@[simp] theorem evE_tab (q : Tq) (x : PySem.Str) (kvs : List (PySem.Str × D)) (e d : E) : evE v (.tab q x kvs e d) δ M = bnd (evE v e δ M) (kTab v q kvs d δ) := by
  rw [evE] <;> rfl
@[simp] theorem kTab_has (kvs : List (PySem.Str × D)) (d : E) (k : D) : kTab v .has kvs d δ k M = tabR .has kvs k .non M := rfl
@[simp] theorem kTab_hasnt (kvs : List (PySem.Str × D)) (d : E) (k : D) : kTab v .hasnt kvs d δ k M = tabR .hasnt kvs k .non M := rfl
@[simp] theorem kTab_item (kvs : List (PySem.Str × D)) (d : E) (k : D) : kTab v .item kvs d δ k M = tabR .item kvs k .non M := rfl
@[simp] theorem kTab_get1 (kvs : List (PySem.Str × D)) (d : E) (k : D) : kTab v .get1 kvs d δ k M = tabR .get1 kvs k .non M := rfl
@[simp] theorem kTab_get2 (kvs : List (PySem.Str × D)) (d : E) (k : D) : kTab v .get2 kvs d δ k M = bnd (evE v d δ M) (kTab2 .get2 kvs k) := rfl
@[simp] theorem kTab2_eq (q : Tq) (kvs : List (PySem.Str × D)) (k y : D) : kTab2 q kvs k y M = tabR q kvs k y M := rfl
def tabI (M : Store) : Option D → Rs D
  | some d => some (.ok d M)
  | none => none
@[simp] theorem tabI_some (M : Store) (d : D) : tabI M (some d) = some (.ok d M) := rfl
@[simp] theorem tabR_has_str (kvs : List (PySem.Str × D)) (x : PySem.Str) (y : D) : tabR .has kvs (.str x) y M = some (.ok (.bl (lookT kvs x).isSome) M) := rfl
@[simp] theorem tabR_hasnt_str (kvs : List (PySem.Str × D)) (x : PySem.Str) (y : D) : tabR .hasnt kvs (.str x) y M = some (.ok (.bl (!(lookT kvs x).isSome)) M) := rfl
@[simp] theorem tabR_item_str (kvs : List (PySem.Str × D)) (x : PySem.Str) (y : D) : tabR .item kvs (.str x) y M = tabI M (lookT kvs x) := by
  show (match lookT kvs x with
    | some d => rok d M
    | none => none) = _
  cases lookT kvs x <;> rfl
@[simp] theorem tabR_get1_str (kvs : List (PySem.Str × D)) (x : PySem.Str) (y : D) : tabR .get1 kvs (.str x) y M = some (.ok ((lookT kvs x).getD .non) M) := rfl
@[simp] theorem tabR_get2_str (kvs : List (PySem.Str × D)) (x : PySem.Str) (y : D) : tabR .get2 kvs (.str x) y M = some (.ok ((lookT kvs x).getD y) M) := rfl
@[simp] theorem tabR_sy (q : Tq) (kvs : List (PySem.Str × D)) (k : Nat) (y : D) : tabR q kvs (.sy k) y M = tabR q kvs (.str (nm k)) y M := rfl
@[simp] theorem evE_xis (i h : Nat) : evE v (.xis i h) δ M = match δ[i]?, v.cx with
    | some (some .exr), some (x, j) => if j = i ∧ x.fs ≠ [] then rok (.bl (catches h x.cls)) M else none
    | _, _ => none := by rw [evE] <;> rfl
@[simp] theorem evE_xfld (i f : Nat) : evE v (.xfld i f) δ M = match δ[i]?, v.cx with
    | some (some .exr), some (x, j) => if j = i then match x.fs.lookup f with
        | some y => rok y M
        | none => none
      else none
    | _, _ => none := by rw [evE] <;> rfl
theorem tChn_fn (q : Pr) (c : E) (d2 : D) (o : Option PO) : tChn v q c δ d2 o = (match o with
    | some (.v (.bl true) M3) => bnd (evE v c δ M3) fun d3 M4 => match prim q [d2, d3] M4 with
      | some (.v d M5) => rok d M5
      | _ => none
    | some (.v (.bl false) M3) => rok (.bl false) M3
    | _ => none) := by
  have e : ∀ M3, bnd (evE v c δ M3) (kChn3 q d2) = bnd (evE v c δ M3) fun d3 M4 => match prim q [d2, d3] M4 with
      | some (.v d M5) => rok d M5
      | _ => none := fun M3 => by
    skip; rfl
  cases o with
  | none => rfl
  | some o =>
    cases o with
    | nl xs => rfl
    | v d M =>
      cases d with
      | bl b =>
        cases b
        · rfl
        · rw [tChn_t, e]
      | _ => rfl
@[simp] theorem evE_chain (p q : Pr) (a b c : E) : evE v (.chain p q a b c) δ M = bnd (evE v a δ M) (kChn v p q b c δ) := by
  rw [evE] <;> rfl
@[simp] theorem evE_frz (e : E) : evE v (.frz e) δ M = bnd (evE v e δ M) kFrz := by
  rw [evE] <;> rfl
@[simp] theorem evE_newD (t : Bool) : evE v (.newD t) δ M = some (.ok (.oid M.length) (M ++ [if t = true then .dt [] else .dk []])) := by rw [evE]
@[simp] theorem evE_disp (es : Es) : evE v (.disp es) δ M = bnd (evEs v es δ (M ++ [.dk []])) (kDisp M.length) := by
  rw [evE] <;> rfl
@[simp] theorem kDisp_eq (n : Nat) (ds : List D) : kDisp n ds M = tDisp2 n M M[n]? (prsK ds) := rfl
@[simp] theorem tDisp2_eq (n : Nat) (kvs : List (Key × D)) : tDisp2 n M (some (.dk [])) (some kvs) = if kvs.length ≤ 15 then some (.ok (.oid n) (M.set n (.dk (dispK kvs)))) else none := rfl
@[simp] theorem evE_comp (m : Bool) (own : List (PySem.Str × Nat)) (elt : E) (t : Tg) (k : Ik) (es ifs : Es) : evE v (.comp m own elt t k es ifs) δ M = bnd (bnd (evEs v es δ M) (kItems k)) (kComp m (compB v (own.map (·.2)) t ifs elt δ)) := by rw [evE] <;> rfl
@[simp] theorem evE_comp2 (m : Bool) (own : List (PySem.Str × Nat)) (elt : E) (t : Tg) (k : Ik) (es : Es) (t2 : Tg) (k2 : Ik) (es2 : Es) : evE v (.comp2 m own elt t k es t2 k2 es2) δ M = bnd (bnd (evEs v es δ M) (kItems k)) (kComp2 m (comp2A v (own.map (·.2)) t k2 es2 t2 elt δ)) := by rw [evE] <;> rfl
@[simp] theorem evE_dcomp (own : List (PySem.Str × Nat)) (kx vx : E) (t : Tg) (k : Ik) (es ifs : Es) : evE v (.dcomp own kx vx t k es ifs) δ M = bnd (bnd (evEs v es δ M) (kItems k)) (kDcomp v (own.map (·.2)) t ifs kx vx δ) := by rw [evE] <;> rfl
@[simp] theorem kDcomp_eq (own : List Nat) (t : Tg) (ifs : Es) (kx vx : E) (it : Items) : kDcomp v own t ifs kx vx δ it M = if it.xs.length ≤ line then bnd (compL it.gd (dcompB v own t ifs kx vx M.length δ) it.xs (M ++ [.dk []])) (kDc M.length) else none := rfl
@[simp] theorem kDc_eq (n : Nat) (zs : List D) : kDc n zs M = some (.ok (.oid n) M) := rfl
@[simp] theorem itemsR_keys (x : PySem.Str) (ks : List PySem.Str) : itemsR (.keys x ks) [] M = some (.ok ⟨ks.map D.str, none⟩ M) := rfl
@[simp] theorem evEs_nil : evEs v .nil δ M = some (.ok [] M) := by rw [evEs]
@[simp] theorem evEs_cons (e : E) (es : Es) : evEs v (.cons e es) δ M = bnd (evE v e δ M) (kCns v es δ) := by rw [evEs] <;> rfl
@[simp] theorem evIfs_nil : evIfs v .nil δ M = some (.ok true M) := by rw [evIfs]
@[simp] theorem evIfs_cons (e : E) (es : Es) : evIfs v (.cons e es) δ M = bnd (evE v e δ M) (kIfs v es δ) := by
  rw [evIfs] <;> rfl
@[simp] theorem evTg_nm (i : Nat) (d : D) : evTg v (.nm i) d δ M = some (.ok (δ.set i (some d)) M) := by rw [evTg]
@[simp] theorem evTg_tup (ts : Tgs) (d : D) : evTg v (.tup ts) d δ M = tTup v ts δ M (viewS M d) := by
  rw [evTg]
  cases viewS M d <;> rfl
@[simp] theorem evTg_sub (o i : E) (y : D) : evTg v (.sub o i) y δ M = bnd (evE v o δ M) (kSub v i y δ) := by
  rw [evTg] <;> rfl
@[simp] theorem evTg_dsub (o i : E) (y : D) : evTg v (.dsub o i) y δ M = bnd (evE v o δ M) (kDsub v i y δ) := by
  rw [evTg] <;> rfl
@[simp] theorem evTg_slc (o a b : E) (y : D) : evTg v (.slc o a b) y δ M = bnd (evE v o δ M) (kSlc v a b y δ) := by
  rw [evTg] <;> rfl
@[simp] theorem evTg_att (c : Nat) (o : E) (f : Nat) (y : D) : evTg v (.att c o f) y δ M = bnd (evE v o δ M) (kAtt c f y δ) := by
  rw [evTg] <;> rfl
@[simp] theorem evTgs_nil : evTgs v .nil [] δ M = some (.ok δ M) := by simp only [evTgs]
@[simp] theorem evTgs_cons (t : Tg) (ts : Tgs) (x : D) (r : List D) : evTgs v (.cons t ts) (x :: r) δ M = bnd (evTg v t x δ M) (kTgs v ts r) := by simp only [evTgs]; rfl
@[simp] theorem tgs_len0 : Tgs.len .nil = 0 := rfl
@[simp] theorem tgs_len1 (t : Tg) (ts : Tgs) : Tgs.len (.cons t ts) = ts.len + 1 := rfl
@[simp] theorem evS_exp (e : E) : evS v (.exp e) δ M = bndS δ (evE v e δ M) (kExp δ) := by rw [evS] <;> rfl
@[simp] theorem evS_asg (t : Tg) (e : E) : evS v (.asg t e) δ M = bndS δ (evE v e δ M) (kAsg v t δ) := by rw [evS] <;> rfl
@[simp] theorem evS_par (i j : Nat) (a b : E) : evS v (.par i j a b) δ M = bndS δ (evE v a δ M) (kPar v i j b δ) := by rw [evS] <;> rfl
@[simp] theorem evS_ret (e : E) : evS v (.ret e) δ M = bndS δ (evE v e δ M) kRet := by rw [evS] <;> rfl
@[simp] theorem evS_retN : evS v .retN δ M = some (.rt .non M) := by rw [evS]
@[simp] theorem evS_pass : evS v .pass δ M = some (.nx δ M) := by rw [evS]
@[simp] theorem evS_hole : evS v .hole δ M = none := by rw [evS]
@[simp] theorem evS_brk : evS v .brk δ M = some (.bk δ M) := by rw [evS]
@[simp] theorem evS_cont : evS v .cont δ M = some (.ct δ M) := by rw [evS]
@[simp] theorem evC_eq (c : E) : evC v c δ M = bnd (evE v c δ M) kTst := by
  unfold evC; rfl
@[simp] theorem evS_if (c : E) (a b : Ss) : evS v (.ifS c a b) δ M = bndS δ (evC v c δ M) (kIf v a b δ) := by rw [evS] <;> rfl
@[simp] theorem evS_for (t : Tg) (k : Ik) (es : Es) (b : Ss) (kl : List Nat) : evS v (.forS t k es b kl) δ M = bndS δ (bnd (evEs v es δ M) (kItems k)) (kFor kl (forF v t b) δ) := by rw [evS] <;> rfl
theorem evS_whl (n : Nat) (c : E) (b : Ss) (kl : List Nat) : evS v (.whl n c b kl) δ M = whileL kl (evC v c) (evSs v b) n δ M := by rw [evS]
@[simp] theorem evS_raise (c : Nat) (ks : List Nat) (es : Es) : evS v (.raise c ks es) δ M = bndS δ (evEs v es δ M) (kRaise c ks δ) := by rw [evS] <;> rfl
@[simp] theorem evS_try (b : Ss) (hs : Hs) : evS v (.tryS b hs) δ M = tryF v.exn (evSs v b δ M) (kHs v hs) := by rw [evS] <;> rfl
@[simp] theorem evS_kil (s : S) (is : List Nat) : evS v (.kil s is) δ M = sq (evS v s δ M) (kKil is) := by
  rw [evS]
  cases evS v s δ M with
  | none => rfl
  | some o => cases o <;> rfl
@[simp] theorem evSs_nil : evSs v .nil δ M = some (.nx δ M) := by rw [evSs]
@[simp] theorem evSs_cons (s : S) (r : Ss) : evSs v (.cons s r) δ M = sq (evS v s δ M) (kSs v r) := by rw [evSs] <;> rfl
@[simp] theorem evHs_nil (x : Exn) : evHs v .nil x δ M = some (.exc x δ M) := by rw [evHs]
@[simp] theorem evHs_none (c : Nat) (b : Ss) (r : Hs) (x : Exn) : evHs v (.cons c none b r) x δ M = if catches c x.cls = true then noxS (evSs { v with cx := none } b δ M) else evHs v r x δ M := by simp only [evHs]
@[simp] theorem evHs_some (c i : Nat) (b : Ss) (r : Hs) (x : Exn) : evHs v (.cons c (some i) b r) x δ M = if catches c x.cls = true then asS i (noxS (evSs { v with cx := some (x, i) } b (δ.set i (some .exr)) M)) else evHs v r x δ M := by simp only [evHs]
@[simp] theorem noxS_nx : noxS (some (.nx δ M)) = some (.nx δ M) := rfl
@[simp] theorem noxS_rt (d : D) : noxS (some (.rt d M)) = some (.rt d M) := rfl
@[simp] theorem noxS_ite (p : Prop) [Decidable p] (a b : Option SO) : noxS (if p then a else b) = if p then noxS a else noxS b := by split <;> rfl
@[simp] theorem asS_nx (i : Nat) : asS i (some (.nx δ M)) = some (.nx (δ.set i none) M) := rfl
@[simp] theorem asS_rt (i : Nat) (d : D) : asS i (some (.rt d M)) = some (.rt d M) := rfl
@[simp] theorem asS_ite (i : Nat) (p : Prop) [Decidable p] (a b : Option SO) : asS i (if p then a else b) = if p then asS i a else asS i b := by split <;> rfl
@[simp] theorem catches_eq (h c : Nat) : catches h c = (h == c || h == 0) := rfl
/-- a turn of a for, a comprehension: their bodies by name -/
theorem forF_eq (t : Tg) (b : Ss) (x : D) : forF v t b x δ M = bndS δ (nox (evTg v t x δ M)) (kSs v b) := rfl
noncomputable def kElt (v : Ev) (elt : E) (δ : Sl) (b : Bool) (M : Store) : Rs (List D) := if b = true then bnd (evE v elt δ M) kOne else rok [] M
where kOne (d : D) (M : Store) : Rs (List D) := rok [d] M
noncomputable def kIf2 (v : Ev) (ifs : Es) (elt : E) (δ : Sl) (M : Store) : Rs (List D) := bnd (evIfs v ifs δ M) (kElt v elt δ)
@[simp] theorem kElt_t (elt : E) : kElt v elt δ true M = bnd (evE v elt δ M) kElt.kOne := rfl
@[simp] theorem kElt_f (elt : E) : kElt v elt δ false M = some (.ok [] M) := rfl
@[simp] theorem kElt_d (elt : E) (p : Prop) [Decidable p] : kElt v elt δ (decide p) M = if p then bnd (evE v elt δ M) kElt.kOne else some (.ok [] M) := by
  by_cases h : p <;> simp [h]
@[simp] theorem kOne_eq (d : D) : kElt.kOne d M = some (.ok [d] M) := rfl
@[simp] theorem kIf2_eq (ifs : Es) (elt : E) : kIf2 v ifs elt δ M = bnd (evIfs v ifs δ M) (kElt v elt δ) := rfl
noncomputable def kDPut (n : Nat) (kd d : D) (M : Store) : Rs (List D) := putR n kd d M
noncomputable def kDVal (v : Ev) (vx : E) (n : Nat) (δ : Sl) (kd : D) (M : Store) : Rs (List D) := bnd (evE v vx δ M) (kDPut n kd)
noncomputable def kDElt (v : Ev) (kx vx : E) (n : Nat) (δ : Sl) (b : Bool) (M : Store) : Rs (List D) := if b = true then bnd (evE v kx δ M) (kDVal v vx n δ) else rok [] M
noncomputable def kDIf (v : Ev) (ifs : Es) (kx vx : E) (n : Nat) (δ : Sl) (M : Store) : Rs (List D) := bnd (evIfs v ifs δ M) (kDElt v kx vx n δ)
@[simp] theorem kDPut_eq (n : Nat) (kd d : D) : kDPut n kd d M = putR n kd d M := rfl
@[simp] theorem kDVal_eq (vx : E) (n : Nat) (kd : D) : kDVal v vx n δ kd M = bnd (evE v vx δ M) (kDPut n kd) := rfl
@[simp] theorem kDElt_t (kx vx : E) (n : Nat) : kDElt v kx vx n δ true M = bnd (evE v kx δ M) (kDVal v vx n δ) := rfl
@[simp] theorem kDElt_f (kx vx : E) (n : Nat) : kDElt v kx vx n δ false M = some (.ok [] M) := rfl
@[simp] theorem kDElt_d (kx vx : E) (n : Nat) (p : Prop) [Decidable p] : kDElt v kx vx n δ (decide p) M = if p then bnd (evE v kx δ M) (kDVal v vx n δ) else some (.ok [] M) := by
  by_cases h : p <;> simp [h]
@[simp] theorem kDIf_eq (ifs : Es) (kx vx : E) (n : Nat) : kDIf v ifs kx vx n δ M = bnd (evIfs v ifs δ M) (kDElt v kx vx n δ) := rfl
theorem dcompB_eq (own : List Nat) (t : Tg) (ifs : Es) (kx vx : E) (n : Nat) (x : D) : dcompB v own t ifs kx vx n δ x M = nox (bnd (evTg v t x (kill δ own) M) (kDIf v ifs kx vx n)) := rfl
theorem putR_end (N : Store) (kvs : List (Key × D)) (k d : D) (key : Key) (hk : keyD k = some key) (hl : kvs.length < line) : putR N.length k d (N ++ [.dk kvs]) = some (.ok [] (N ++ [.dk (storeK kvs key d)])) := by
  have h : (N ++ [Ob.dk kvs])[N.length]? = some (.dk kvs) := by rw [List.getElem?_append_right (Nat.le_refl _), Nat.sub_self]; rfl
  unfold putR setK
  rw [h]
  dsimp only
  unfold setD
  rw [h]
  dsimp only
  rw [hk]
  dsimp only
  rw [if_pos hl]
  dsimp only
  simp [rok]
/-- a dict that is built by a comprehension: what it is after each item -/
theorem compL_dk {F : D → Store → Rs (List D)} {N : Store} (f : Nat → List (Key × D)) (xs : List D) (h : ∀ i x, xs[i]? = some x → F x (N ++ [.dk (f i)]) = some (.ok [] (N ++ [.dk (f (i + 1))]))) :
    compL none F xs (N ++ [.dk (f 0)]) = some (.ok [] (N ++ [.dk (f xs.length)])) := by
  induction xs generalizing f with
  | nil => unfold compL; rw [if_pos (show gdOk none _ from True.intro)]; rfl
  | cons x xs ih =>
    unfold compL
    rw [if_pos (show gdOk none _ from True.intro), h 0 x rfl]
    show bnd (compL none F xs _) _ = _
    rw [ih (fun i => f (i + 1)) fun i y hy => h (i + 1) y hy]
    rfl
theorem compB_eq (own : List Nat) (t : Tg) (ifs : Es) (elt : E) (x : D) : compB v own t ifs elt δ x M = nox (bnd (evTg v t x (kill δ own) M) (kIf2 v ifs elt)) := rfl
end
/-! ### operators -/
section
variable {M : Store}
@[simp] theorem itemsR_lst (xs : List D) : itemsR .ex [.lst xs] M = some (.ok ⟨xs, none⟩ M) := rfl
@[simp] theorem itemsR_scr (xs : List D) : itemsR .ex [.scr xs] M = some (.ok ⟨xs, none⟩ M) := rfl
@[simp] theorem itemsR_tup (xs : List D) : itemsR .ex [.tup xs] M = some (.ok ⟨xs, none⟩ M) := rfl
@[simp] theorem itemsR_ktup (xs : List D) : itemsR .ex [.ktup xs] M = some (.ok ⟨xs, none⟩ M) := rfl
@[simp] theorem itemsR_str (x : PySem.Str) : itemsR .ex [.str x] M = if x.length ≤ line then some (.ok ⟨x.cps.toList.map fun c => .str ⟨#[c]⟩, none⟩ M) else none := by
  unfold itemsR items
  split <;> split <;> simp_all
@[simp] theorem itemsR_rng1 (j : Int) : itemsR .rng1 [.int j] M = if small62 j = true then some (.ok ⟨rngL 0 j.toNat 1, none⟩ M) else none := by
  unfold itemsR items
  dsimp only
  by_cases h : small62 j = true <;> simp [h]
@[simp] theorem itemsR_rng2 (i j : Int) : itemsR .rng2 [.int i, .int j] M = if (small62 i && small62 j) = true then some (.ok ⟨rngL i (j - i).toNat 1, none⟩ M) else none := by
  unfold itemsR items
  dsimp only
  by_cases h : (small62 i && small62 j) = true <;> simp [h]
@[simp] theorem itemsR_enumR_str (x : PySem.Str) : itemsR .enumR [.str x] M = if x.length ≤ line then some (.ok ⟨(x.cps.toList.reverse.map fun c => D.str ⟨#[c]⟩).zipIdx.map fun p => .tup [.int (p.2 : Int), p.1], none⟩ M) else none := by
  show (match (if x.length ≤ line then some (⟨(x.cps.toList.reverse.map fun c => D.str ⟨#[c]⟩).zipIdx.map fun p => .tup [.int (p.2 : Int), p.1], none⟩ : Items) else none) with
    | some it => rok it M
    | none => none) = _
  by_cases h : x.length ≤ line
  · rw [if_pos h, if_pos h]
  · rw [if_neg h, if_neg h]
@[simp] theorem itemsR_enum_lst (xs : List D) : itemsR .enum [.lst xs] M = some (.ok ⟨xs.zipIdx.map fun p => .tup [.int (p.2 : Int), p.1], none⟩ M) := rfl
@[simp] theorem itemsR_enum_tup (xs : List D) : itemsR .enum [.tup xs] M = some (.ok ⟨xs.zipIdx.map fun p => .tup [.int (p.2 : Int), p.1], none⟩ M) := rfl
@[simp] theorem itemsR_enum_ktup (xs : List D) : itemsR .enum [.ktup xs] M = some (.ok ⟨xs.zipIdx.map fun p => .tup [.int (p.2 : Int), p.1], none⟩ M) := rfl
@[simp] theorem itemsR_enum_scr (xs : List D) : itemsR .enum [.scr xs] M = some (.ok ⟨xs.zipIdx.map fun p => .tup [.int (p.2 : Int), p.1], none⟩ M) := rfl
@[simp] theorem itemsR_rev_lst (xs : List D) : itemsR .rev [.lst xs] M = some (.ok ⟨xs.reverse, none⟩ M) := rfl
theorem small62_of {j : Int} (h : -(2 ^ 62) ≤ j) (h2 : j < 2 ^ 62) : small62 j = true := okP_of ⟨h, h2⟩
theorem small62_nat {n : Nat} (h : n ≤ 100000000) : small62 (n : Int) = true :=
  small62_of (Int.le_trans (by decide) (Int.natCast_nonneg n)) (Int.lt_of_le_of_lt (Int.ofNat_le.mpr h) (by decide))
@[simp] theorem small62_lit (n : Nat) (h : n ≤ 100000000) : small62 (no_index (@OfNat.ofNat Int n instOfNat)) = true := small62_nat h
theorem rngL_one (n : Nat) : rngL 0 n 1 = (List.range n).map fun k : Nat => .int (k : Int) := by
  unfold rngL
  congr 1
  funext k
  simp
@[simp] theorem prim_add : prim .add = pAdd := rfl
@[simp] theorem prim_sub : prim .sub = pSub := rfl
@[simp] theorem prim_mul : prim .mul = pMul := rfl
@[simp] theorem prim_fdiv : prim .fdiv = pFdiv := rfl
@[simp] theorem prim_mod : prim .mod = pMod := rfl
@[simp] theorem prim_pow : prim .pow = pPow := rfl
@[simp] theorem prim_shr : prim .shr = pShr := rfl
@[simp] theorem prim_band : prim .band = pBand := rfl
@[simp] theorem prim_bxor : prim .bxor = pBxor := rfl
@[simp] theorem prim_neg : prim .neg = pNeg := rfl
@[simp] theorem prim_eq : prim .eq = pEq := rfl
@[simp] theorem prim_ne : prim .ne = pNe := rfl
@[simp] theorem prim_lt : prim .lt = pLt := rfl
@[simp] theorem prim_le : prim .le = pLe := rfl
@[simp] theorem prim_gt : prim .gt = pGt := rfl
@[simp] theorem prim_ge : prim .ge = pGe := rfl
@[simp] theorem prim_is : prim .is = pIs := rfl
@[simp] theorem prim_isNot : prim .isNot = pIsNot := rfl
@[simp] theorem prim_in : prim .in_ = pIn := rfl
@[simp] theorem prim_notIn : prim .notIn = pNotIn := rfl
@[simp] theorem prim_ix : prim .ix = pIx := rfl
@[simp] theorem prim_dix : prim .dix = pDix := rfl
@[simp] theorem prim_din : prim .din = pDin := rfl
@[simp] theorem prim_dnotIn : prim .dnotIn = pDnotIn := rfl
@[simp] theorem prim_eqz : prim .eqz = pEqz := rfl
@[simp] theorem prim_sl00 : prim .sl00 = pSl00 := rfl
@[simp] theorem prim_sl01 : prim .sl01 = pSl01 := rfl
@[simp] theorem prim_sl10 : prim .sl10 = pSl10 := rfl
@[simp] theorem prim_len : prim .len = pLen := rfl
@[simp] theorem prim_int : prim .int_ = pInt := rfl
@[simp] theorem prim_list : prim .list_ = pList := rfl
@[simp] theorem prim_tuple : prim .tuple_ = pTuple := rfl
@[simp] theorem prim_sort2 : prim .sort2 = pSort2 := rfl
@[simp] theorem prim_min : prim .min2 = pMin := rfl
@[simp] theorem prim_max : prim .max2 = pMax := rfl
@[simp] theorem prim_ord : prim .ord = pOrd := rfl
@[simp] theorem prim_str : prim .str_ = pStr := rfl
@[simp] theorem prim_isinst (t : Ty) : prim (.isinst t) = pIsinst t := rfl
@[simp] theorem prim_append : prim .append = pAppend := rfl
@[simp] theorem prim_extend : prim .extend = pExtend := rfl
@[simp] theorem prim_count : prim .count = pCount := rfl
@[simp] theorem prim_index : prim .index = pIndex := rfl
@[simp] theorem prim_lrev : prim .lrev = pLrev := rfl
@[simp] theorem prim_get1 : prim .get1 = pGet1 := rfl
@[simp] theorem prim_get2 : prim .get2 = pGet2 := rfl
@[simp] theorem pAdd_int (i j : Int) : pAdd [.int i, .int j] M = some (.v (.int (i + j)) M) := rfl
@[simp] theorem pAdd_lst (xs ys : List D) : pAdd [.lst xs, .lst ys] M = if xs.length + ys.length ≤ line then some (.nl (xs ++ ys)) else none := rfl
@[simp] theorem pAdd_tup (xs ys : List D) : pAdd [.tup xs, .tup ys] M = if xs.length + ys.length ≤ line then some (.v (.tup (xs ++ ys)) M) else none := rfl
@[simp] theorem pSub_int (i j : Int) : pSub [.int i, .int j] M = some (.v (.int (i - j)) M) := rfl
@[simp] theorem pMul_int (i j : Int) : pMul [.int i, .int j] M = if okMul i j = true then some (.v (.int (i * j)) M) else none := rfl
@[simp] theorem pFdiv_int (i j : Int) : pFdiv [.int i, .int j] M = if okDiv j = true then some (.v (.int (i / j)) M) else none := rfl
@[simp] theorem pMod_int (i j : Int) : pMod [.int i, .int j] M = if 0 < j then some (.v (.int (i % j)) M) else none := rfl
@[simp] theorem pPow_int (i j : Int) : pPow [.int i, .int j] M = if okPow i j = true then some (.v (.int (i ^ j.toNat)) M) else none := rfl
@[simp] theorem pShr_int (i j : Int) : pShr [.int i, .int j] M = if 0 ≤ j then some (.v (.int (i / 2 ^ j.toNat)) M) else none := rfl
@[simp] theorem pBand_int (i j : Int) : pBand [.int i, .int j] M = some (.v (.int (Builtin.bitAnd i j)) M) := rfl
@[simp] theorem pBxor_int (i j : Int) : pBxor [.int i, .int j] M = some (.v (.int (Builtin.bitXor i j)) M) := rfl
@[simp] theorem pNeg_int (i : Int) : pNeg [.int i] M = some (.v (.int (-i)) M) := rfl
@[simp] theorem pEq_eq (a b : D) : pEq [a, b] M = (eqD M a b).map fun k => .v (.bl k) M := rfl
@[simp] theorem pEqz_eq (a b : D) : pEqz [a, b] M = match viewL M a, viewL M b with
    | some xs, some ys => if xs.length = ys.length then (eqD M a b).map fun k => .v (.bl k) M else some (.v (.bl false) M)
    | _, _ => none := rfl
@[simp] theorem pNe_eq (a b : D) : pNe [a, b] M = (eqD M a b).map fun k => .v (.bl (!k)) M := rfl
@[simp] theorem pLt_int (i j : Int) : pLt [.int i, .int j] M = some (.v (.bl (decide (i < j))) M) := rfl
@[simp] theorem pLe_int (i j : Int) : pLe [.int i, .int j] M = some (.v (.bl (decide (i ≤ j))) M) := rfl
@[simp] theorem pGt_int (i j : Int) : pGt [.int i, .int j] M = some (.v (.bl (decide (j < i))) M) := rfl
@[simp] theorem pGe_int (i j : Int) : pGe [.int i, .int j] M = some (.v (.bl (decide (j ≤ i))) M) := rfl
@[simp] theorem pIs_non (a : D) : pIs [a, .non] M = some (.v (.bl (isNon a)) M) := by cases a <;> rfl
@[simp] theorem pIs_bl (a b : Bool) : pIs [.bl a, .bl b] M = some (.v (.bl (decide (a = b))) M) := rfl
@[simp] theorem pIsNot_non (a : D) : pIsNot [a, .non] M = some (.v (.bl (!isNon a)) M) := by cases a <;> rfl
@[simp] theorem pIsNot_bl (a b : Bool) : pIsNot [.bl a, .bl b] M = some (.v (.bl (!decide (a = b))) M) := rfl
@[simp] theorem isNon_non : isNon .non = true := rfl
@[simp] theorem isNon_int (i : Int) : isNon (.int i) = false := rfl
@[simp] theorem isNon_oid (i : Nat) : isNon (.oid i) = false := rfl
@[simp] theorem isNon_lst (i : List D) : isNon (.lst i) = false := rfl
@[simp] theorem isNon_tup (i : List D) : isNon (.tup i) = false := rfl
@[simp] theorem isNon_str (i : PySem.Str) : isNon (.str i) = false := rfl
@[simp] theorem isNon_sy (i : Nat) : isNon (.sy i) = false := rfl
@[simp] theorem isNon_bl (i : Bool) : isNon (.bl i) = false := rfl
@[simp] theorem pIn_eq (x c : D) : pIn [x, c] M = (inD M x c).map fun b => .v (.bl b) M := rfl
@[simp] theorem pNotIn_eq (x c : D) : pNotIn [x, c] M = (inD M x c).map fun b => .v (.bl (!b)) M := rfl
@[simp] theorem pIx_lst (xs : List D) (i : Int) : pIx [.lst xs, .int i] M = ixL xs i M := rfl
@[simp] theorem pIx_scr (xs : List D) (i : Int) : pIx [.scr xs, .int i] M = ixL xs i M := rfl
@[simp] theorem pIx_tup (xs : List D) (i : Int) : pIx [.tup xs, .int i] M = ixL xs i M := rfl
@[simp] theorem pIx_ktup (xs : List D) (i : Int) : pIx [.ktup xs, .int i] M = ixL xs i M := rfl
@[simp] theorem pIx_oid (n : Nat) (i : Int) : pIx [.oid n, .int i] M = match viewL M (.oid n) with
    | some xs => ixL xs i M
    | none => none := rfl
@[simp] theorem pDix_eq (n : Nat) (k : D) : pDix [.oid n, k] M = match getD M n k with
    | some (some d) => some (.v d M)
    | _ => none := rfl
@[simp] theorem pDin_eq (n : Nat) (k : D) : pDin [k, .oid n] M = match getD M n k with
    | some r => some (.v (.bl r.isSome) M)
    | none => none := rfl
@[simp] theorem pDnotIn_eq (n : Nat) (k : D) : pDnotIn [k, .oid n] M = match getD M n k with
    | some r => some (.v (.bl (!r.isSome)) M)
    | none => none := rfl
@[simp] theorem pSl00_eq (a : D) : pSl00 [a] M = slice M a none none := rfl
@[simp] theorem pSl01_eq (a : D) (j : Int) : pSl01 [a, .int j] M = slice M a none (some j) := rfl
@[simp] theorem pSl10_eq (a : D) (j : Int) : pSl10 [a, .int j] M = slice M a (some j) none := rfl
@[simp] theorem pLen_eq (a : D) : pLen [a] M = (lenD M a).map fun n : Nat => .v (.int (n : Int)) M := rfl
@[simp] theorem lenD_lst (xs : List D) : lenD M (.lst xs) = some xs.length := rfl
@[simp] theorem lenD_scr (xs : List D) : lenD M (.scr xs) = some xs.length := rfl
@[simp] theorem lenD_tup (xs : List D) : lenD M (.tup xs) = some xs.length := rfl
@[simp] theorem lenD_ktup (xs : List D) : lenD M (.ktup xs) = some xs.length := rfl
@[simp] theorem lenD_str (x : PySem.Str) : lenD M (.str x) = if x.length ≤ line then some x.length else none := rfl
@[simp] theorem pInt_int (i : Int) : pInt [.int i] M = some (.v (.int i) M) := rfl
@[simp] theorem pInt_bl (b : Bool) : pInt [.bl b] M = some (.v (.int (if b then 1 else 0)) M) := rfl
@[simp] theorem pList_eq (a : D) : pList [a] M = (viewS M a).map fun xs => .nl xs := rfl
@[simp] theorem pTuple_lst (xs : List D) : pTuple [.lst xs] M = some (.v (.tup xs) M) := rfl
@[simp] theorem pTuple_tup (xs : List D) : pTuple [.tup xs] M = some (.v (.tup xs) M) := rfl
@[simp] theorem pTuple_scr (xs : List D) : pTuple [.scr xs] M = some (.v (.tup xs) M) := rfl
@[simp] theorem pTuple_oid (n : Nat) : pTuple [.oid n] M = (viewL M (.oid n)).map fun xs => .v (.tup xs) M := rfl
@[simp] theorem pMin_int (i j : Int) : pMin [.int i, .int j] M = some (.v (.int (if j < i then j else i)) M) := rfl
@[simp] theorem pMax_int (i j : Int) : pMax [.int i, .int j] M = some (.v (.int (if j > i then j else i)) M) := rfl
@[simp] theorem pIsinst_eq (t : Ty) (a : D) : pIsinst t [a] M = (isTy t M a).map fun b => .v (.bl b) M := rfl
@[simp] theorem isTy_bool_int (i : Int) : isTy .bool M (.int i) = some false := rfl
@[simp] theorem isTy_bool_bl (i : Bool) : isTy .bool M (.bl i) = some true := rfl
@[simp] theorem isTy_int_int (i : Int) : isTy .int M (.int i) = some true := rfl
@[simp] theorem isTy_int_bl (i : Bool) : isTy .int M (.bl i) = some true := rfl
@[simp] theorem isTy_list_lst (xs : List D) : isTy .list M (.lst xs) = some true := rfl
@[simp] theorem isTy_tuple_tup (xs : List D) : isTy .tuple M (.tup xs) = some true := rfl
@[simp] theorem isTy_str_str (x : PySem.Str) : isTy .str M (.str x) = some true := rfl
@[simp] theorem isTy_str_sy (n : Nat) : isTy .str M (.sy n) = some true := rfl
@[simp] theorem isTy_list_tup (xs : List D) : isTy .list M (.tup xs) = some false := rfl
@[simp] theorem isTy_tuple_lst (xs : List D) : isTy .tuple M (.lst xs) = some false := rfl
@[simp] theorem isTy_bool_lst (xs : List D) : isTy .bool M (.lst xs) = some false := rfl
@[simp] theorem isTy_bool_tup (xs : List D) : isTy .bool M (.tup xs) = some false := rfl
@[simp] theorem isTy_bool_str (xs : PySem.Str) : isTy .bool M (.str xs) = some false := rfl
@[simp] theorem pAppend_eq (n : Nat) (y : D) : pAppend [.oid n, y] M = match M[n]? with
    | some (.lst xs) => if xs.length < line then some (.v .non (M.set n (.lst (xs ++ [y])))) else none
    | _ => none := rfl
@[simp] theorem pExtend_eq (n : Nat) (a : D) : pExtend [.oid n, a] M = match M[n]?, viewE M a with
    | some (.lst xs), some ys => if xs.length + ys.length ≤ line then some (.v .non (M.set n (.lst (xs ++ ys)))) else none
    | _, _ => none := rfl
@[simp] theorem recv_append (n : Nat) : recv .append M (.oid n) = (viewL M (.oid n)).isSome := rfl
@[simp] theorem recv_extend (n : Nat) : recv .extend M (.oid n) = (viewL M (.oid n)).isSome := rfl
@[simp] theorem isExr_int (i : Int) : isExr (.int i) = false := rfl
@[simp] theorem isExr_bl (i : Bool) : isExr (.bl i) = false := rfl
@[simp] theorem isExr_non : isExr .non = false := rfl
@[simp] theorem isExr_str (i : PySem.Str) : isExr (.str i) = false := rfl
@[simp] theorem isExr_sy (i : Nat) : isExr (.sy i) = false := rfl
@[simp] theorem isExr_tup (i : List D) : isExr (.tup i) = false := rfl
@[simp] theorem isExr_lst (i : List D) : isExr (.lst i) = false := rfl
@[simp] theorem isExr_scr (i : List D) : isExr (.scr i) = false := rfl
@[simp] theorem isExr_ktup (i : List D) : isExr (.ktup i) = false := rfl
@[simp] theorem isExr_oid (i : Nat) : isExr (.oid i) = false := rfl
@[simp] theorem kill_nil {δ : Sl} : kill δ [] = δ := rfl
@[simp] theorem kill_cons {δ : Sl} {i : Nat} {is : List Nat} : kill δ (i :: is) = (kill δ is).set i none := rfl
@[simp] theorem arC_eq (n : Nat) (C : Ctr) (ds : List D) : arC n C ds M = if ds.length = n then C ds M else none := rfl
@[simp] theorem get_len (M N : Store) (o : Ob) : (M ++ o :: N)[M.length]? = some o := by simp
@[simp] theorem get_len1 (M N : Store) (o o2 : Ob) : (M ++ o :: o2 :: N)[M.length + 1]? = some o2 := by
  rw [List.getElem?_append_right (by omega)]; simp
@[simp] theorem set_len (M N : Store) (o o2 : Ob) : (M ++ o :: N).set M.length o2 = M ++ o2 :: N := by
  rw [List.set_append_right _ _ (Nat.le_refl _)]; simp
@[simp] theorem set_len1 (M N : Store) (o o2 o3 : Ob) : (M ++ o :: o2 :: N).set (M.length + 1) o3 = M ++ o :: o3 :: N := by
  rw [List.set_append_right _ _ (by omega)]; simp
@[simp] theorem line_eq : line = 16777216 := rfl
theorem okMul_of {i j : Int} (h1 : i.natAbs < 2 ^ 250) (h2 : j.natAbs < 2 ^ 250) : okMul i j = true := okP_of (.inl ⟨h1, h2⟩)
theorem okMul_r {i j : Int} (h : j.natAbs < 2 ^ 63) : okMul i j = true := okP_of (.inr (.inl h))
theorem okMul_l {i j : Int} (h : i.natAbs < 2 ^ 63) : okMul i j = true := okP_of (.inr (.inr h))
theorem okDiv_of {j : Int} (h1 : 0 < j) (h2 : j < 2 ^ 250) : okDiv j = true := okP_of ⟨h1, h2⟩
theorem okPow_of {i j : Int} (h : 0 ≤ j) (h1 : j ≤ 1000000) (h2 : i.natAbs < 2 ^ 64) : okPow i j = true := okP_of ⟨h, h1, h2⟩
theorem okRep_of {n : Nat} {k : Int} (h : -(2 ^ 63) ≤ k) (h1 : k < 2 ^ 63) (h2 : n * k.toNat ≤ line) : okRep n k = true := okP_of ⟨h, h1, h2⟩
@[simp] theorem okPow_lit (i j : Nat) (h1 : j ≤ 1000000) (h2 : i < 2 ^ 64) : okPow (no_index (@OfNat.ofNat Int i instOfNat)) (no_index (@OfNat.ofNat Int j instOfNat)) = true := okPow_of (Int.natCast_nonneg j) (Int.ofNat_le.mpr h1) h2
@[simp] theorem okMul_lit (i j : Nat) (h1 : i < 2 ^ 250) (h2 : j < 2 ^ 250) : okMul (no_index (@OfNat.ofNat Int i instOfNat)) (no_index (@OfNat.ofNat Int j instOfNat)) = true := okMul_of h1 h2
@[simp] theorem okDiv_lit (j : Nat) (h : 0 < j) (h1 : j < 2 ^ 250) : okDiv (no_index (@OfNat.ofNat Int j instOfNat)) = true := okDiv_of (Int.ofNat_lt.mpr h) (by
  have := Int.ofNat_lt.mpr h1
  rwa [Int.natCast_pow] at this)
end
theorem emod_abs {a k : Int} (h1 : 0 < k) : (a % k).natAbs < k.natAbs := by
  have := Int.emod_nonneg a (Int.ne_of_gt h1)
  have := Int.emod_lt_of_pos a h1
  omega
@[simp] theorem okMul_ml (a k c : Int) (h1 : 0 < k) (h2 : k.natAbs < 2 ^ 250) (h3 : c.natAbs < 2 ^ 250) : okMul (a % k) c = true := okMul_of (Nat.lt_trans (emod_abs h1) h2) h3
@[simp] theorem okMul_mr (a k c : Int) (h1 : 0 < k) (h2 : k.natAbs < 2 ^ 250) (h3 : c.natAbs < 2 ^ 250) : okMul c (a % k) = true := okMul_of h3 (Nat.lt_trans (emod_abs h1) h2)
/-! ### equality -/
@[simp] theorem eqD_int (M : Store) (i j : Int) : eqD M (.int i) (.int j) = some (decide (i = j)) := by
  show some (PyData.eqv (.int i) (.int j)) = _
  simp [PyData.eqv]
  rfl
theorem eqv_ints : ∀ ns ms : List Int, PyData.eqvAll (ns.map .int) (ms.map .int) = decide (ns = ms)
  | [], [] => by simp [PyData.eqvAll]
  | [], _ :: _ => by simp [PyData.eqvAll]
  | _ :: _, [] => by simp [PyData.eqvAll]
  | n :: ns, m :: ms => by
    rw [List.map_cons, List.map_cons, PyData.eqvAll, eqv_ints ns ms]
    simp [PyData.eqv, Bool.beq_eq_decide_eq]
theorem toPd_ints (M : Store) (n : Nat) : ∀ ns : List Int, mapO (toPd M (n + 1)) (ns.map D.int) = some (ns.map PyData.int)
  | [] => rfl
  | i :: ns => by
    rw [List.map_cons, mapO, toPd_ints M n ns]
    rfl
theorem toPd_lst (M : Store) (n : Nat) (ns : List Int) : toPd M (n + 2) (.lst (ns.map D.int)) = some (.list (ns.map PyData.int)) := by
  show (mapO (toPd M (n + 1)) (ns.map D.int)).map PyData.list = _
  rw [toPd_ints]
  rfl
@[simp] theorem eqD_ints (M : Store) (ns ms : List Int) : eqD M (.lst (ns.map D.int)) (.lst (ms.map D.int)) = some (decide (ns = ms)) := by
  unfold eqD
  rw [show pdDepth = 6 + 2 from rfl, toPd_lst, toPd_lst]
  show some (PyData.eqv (.list _) (.list _)) = _
  rw [PyData.eqv, eqv_ints]
@[simp] theorem eqD_ints0 (M : Store) (ns : List Int) : eqD M (.lst (ns.map D.int)) (.lst []) = some (decide (ns = [])) := eqD_ints M ns []
@[simp] theorem eqD_nil (M : Store) : eqD M (.lst []) (.lst []) = some true := eqD_ints M [] []
/-! ### ints -/
def getI : D → Option Int
  | .int i => some i
  | _ => none
def intsOf (xs : List D) : Option (List Int) := mapO getI xs
@[simp] theorem intsOf_map : ∀ ns : List Int, intsOf (ns.map D.int) = some ns
  | [] => rfl
  | i :: ns => by
    have ih := intsOf_map ns
    unfold intsOf at ih ⊢
    rw [List.map_cons, mapO, ih]
    rfl
@[simp] theorem intsOf_nil : intsOf [] = some [] := rfl
theorem intsOf_eq : ∀ {xs : List D} {ns : List Int}, intsOf xs = some ns → xs = ns.map D.int
  | [], ns, h => by cases h; rfl
  | d :: xs, ns, h => by
    unfold intsOf mapO at h
    cases d with
    | int i =>
      cases q : mapO getI xs with
      | none => rw [q] at h; cases h
      | some ms =>
        rw [q] at h
        cases h
        rw [List.map_cons, intsOf_eq (xs := xs) (ns := ms) q]
    | _ => cases h

/-! ### loops -/
/-- the end of a turn -/
def killN (kl : List Nat) : Option SO → Option SO
  | some (.nx δ M) => some (.nx (kill δ kl) M)
  | some (.ct δ M) => some (.nx (kill δ kl) M)
  | r => r
@[simp] theorem killN_nx (kl : List Nat) (δ : Sl) (M : Store) : killN kl (some (.nx δ M)) = some (.nx (kill δ kl) M) := rfl
@[simp] theorem killN_ct (kl : List Nat) (δ : Sl) (M : Store) : killN kl (some (.ct δ M)) = some (.nx (kill δ kl) M) := rfl
@[simp] theorem killN_rt (kl : List Nat) (d : D) (M : Store) : killN kl (some (.rt d M)) = some (.rt d M) := rfl
@[simp] theorem killN_ite (kl : List Nat) (p : Prop) [Decidable p] (a b : Option SO) : killN kl (if p then a else b) = if p then killN kl a else killN kl b := by split <;> rfl
theorem killN_nx_of {kl : List Nat} {o : Option SO} {δ : Sl} {M : Store} (h : killN kl o = some (.nx δ M)) : ∃ δ', (o = some (.nx δ' M) ∨ o = some (.ct δ' M)) ∧ kill δ' kl = δ := by
  unfold killN at h
  split at h
  · cases h; exact ⟨_, .inl rfl, rfl⟩
  · cases h; exact ⟨_, .inr rfl, rfl⟩
  · rename_i h1 h2
    subst h
    exact absurd rfl (h1 _ _)
/-- a loop that never leaves early: the state a by the turn -/
theorem forL_foldI {α : Type} {g : Option (Nat × List D)} {kl : List Nat} {F : D → Sl → Store → Option SO} (emb : α → Sl × Store) (stp : α → D → α) (P : Nat → α → Prop) (hg : ∀ i a, P i a → gdOk g (emb a).2) (hk : ∀ a, kill (emb a).1 kl = (emb a).1) :
    ∀ (xs : List D) (n : Nat) (a : α), P n a → (∀ i a x, xs[i]? = some x → P (n + i) a → P (n + i + 1) (stp a x) ∧ killN kl (F x (emb a).1 (emb a).2) = some (.nx (emb (stp a x)).1 (emb (stp a x)).2)) →
      forL g kl F xs (emb a).1 (emb a).2 = some (.nx (emb (xs.foldl stp a)).1 (emb (xs.foldl stp a)).2) ∧ P (n + xs.length) (xs.foldl stp a)
  | [], n, a, p, hs => by
    refine ⟨?_, p⟩
    rw [forL_nil, if_pos (hg _ a p), hk]
    rfl
  | x :: xs, n, a, p, hs => by
    obtain ⟨p1, e⟩ := hs 0 a x rfl p
    obtain ⟨δ', e1, e2⟩ := killN_nx_of e
    have ih := forL_foldI (F := F) emb stp P hg hk xs (n + 1) (stp a x) p1 fun i a y hy pa => by
      have := hs (i + 1) a y (by simpa using hy) (by rw [show n + (i + 1) = n + 1 + i by omega]; exact pa)
      rwa [show n + (i + 1) = n + 1 + i by omega] at this
    refine ⟨?_, by rw [List.length_cons, show n + (xs.length + 1) = n + 1 + xs.length by omega]; exact ih.2⟩
    rw [forL_cons, if_pos (hg _ a p)]
    rcases e1 with e1 | e1 <;>
    · rw [e1]
      show forL g kl F xs (kill δ' kl) _ = _
      rw [e2]
      exact ih.1
theorem forL_fold {α : Type} {g : Option (Nat × List D)} {kl : List Nat} {F : D → Sl → Store → Option SO} (emb : α → Sl × Store) (stp : α → D → α) (P : Nat → α → Prop) (xs : List D) (a : α) (p : P 0 a) (hg : ∀ i a, P i a → gdOk g (emb a).2) (hk : ∀ a, kill (emb a).1 kl = (emb a).1)
    (hs : ∀ i a x, xs[i]? = some x → P i a → P (i + 1) (stp a x) ∧ killN kl (F x (emb a).1 (emb a).2) = some (.nx (emb (stp a x)).1 (emb (stp a x)).2)) :
    forL g kl F xs (emb a).1 (emb a).2 = some (.nx (emb (xs.foldl stp a)).1 (emb (xs.foldl stp a)).2) ∧ P xs.length (xs.foldl stp a) := by
  have := forL_foldI (F := F) emb stp P hg hk xs 0 a p fun i a x hx pa => by
    rw [Nat.zero_add] at pa ⊢
    exact hs i a x hx pa
  rwa [Nat.zero_add] at this
/-- a comprehension over items each of which gives one value and leaves the store as it is -/
theorem compL_map {F : D → Store → Rs (List D)} {M : Store} {g : Option (Nat × List D)} (hg : gdOk g M) (f : D → List D) : ∀ xs : List D, (∀ x ∈ xs, F x M = some (.ok (f x) M)) → compL g F xs M = some (.ok (xs.flatMap f) M)
  | [], _ => by rw [compL_nil, if_pos hg]; rfl
  | x :: xs, h => by
    rw [compL_cons, if_pos hg, h x List.mem_cons_self, bnd_ok, compL_map hg f xs fun y hy => h y (List.mem_cons_of_mem _ hy)]
    rfl
theorem compL_ints {β : Type} {F : D → Store → Rs (List D)} {M : Store} {g : Option (Nat × List D)} (hg : gdOk g M) (e : β → D) (f : β → Int) (xs : List β) (h : ∀ x ∈ xs, F (e x) M = some (.ok [.int (f x)] M)) : compL g F (xs.map e) M = some (.ok ((xs.map f).map D.int) M) := by
  induction xs with
  | nil => rw [List.map_nil, compL_nil, if_pos hg]; rfl
  | cons x xs ih =>
    rw [List.map_cons, compL_cons, if_pos hg, h x List.mem_cons_self, bnd_ok, ih fun y hy => h y (List.mem_cons_of_mem _ hy)]
    rfl
theorem compL_none {F : D → Store → Rs (List D)} {M : Store} {g : Option (Nat × List D)} (hg : gdOk g M) (xs : List D) (h : ∀ x ∈ xs, F x M = some (.ok [] M)) : compL g F xs M = some (.ok [] M) := by
  induction xs with
  | nil => rw [compL_nil, if_pos hg]
  | cons x xs ih =>
    rw [compL_cons, if_pos hg, h x List.mem_cons_self, bnd_ok, ih fun y hy => h y (List.mem_cons_of_mem _ hy)]
    rfl
/-! ### places and pieces -/
theorem ixN_nat {n k : Nat} (h : k < n) : ixN n (k : Int) = some k := by
  unfold ixN
  rw [if_pos (Int.natCast_nonneg k), if_pos (by omega)]
  rfl
theorem ixL_nat {xs : List D} {k : Nat} {d : D} (M : Store) (h : xs[k]? = some d) : ixL xs (k : Int) M = some (.v d M) := by
  unfold ixL atI
  rw [ixN_nat (List.getElem?_eq_some_iff.mp h).1]
  show (match xs[k]? with
    | some d => some (PO.v d M)
    | none => none) = _
  rw [h]
theorem ixL_ints {ns : List Int} {k : Nat} (M : Store) (h : k < ns.length) : ixL (ns.map D.int) (k : Int) M = some (.v (.int (ns.getD k 0)) M) := by
  refine ixL_nat M ?_
  rw [List.getElem?_map, List.getElem?_eq_getElem h]
  simp [List.getD, h]
theorem cut_to {α : Type} (xs : List α) (j : Nat) : cut xs none (some (j : Int)) = xs.take j := by
  unfold cut
  rw [HT.sIx_none, HT.sIx_nat, List.drop_zero, Nat.sub_zero]
  by_cases h : j ≤ xs.length
  · rw [Nat.min_eq_left h]
  · rw [Nat.min_eq_right (by omega), List.take_of_length_le (Nat.le_refl _), List.take_of_length_le (by omega)]
theorem cut_from {α : Type} (xs : List α) (j : Nat) : cut xs (some (j : Int)) none = xs.drop j := by
  unfold cut
  rw [HT.sIx_none, HT.sIx_nat]
  by_cases h : j ≤ xs.length
  · rw [Nat.min_eq_left h, List.take_of_length_le (by rw [List.length_drop]; omega)]
  · rw [Nat.min_eq_right (by omega), Nat.sub_self, List.take_zero, List.drop_eq_nil_of_le (by omega)]
theorem cut_mid {α : Type} (xs : List α) (i j : Nat) : cut xs (some (i : Int)) (some (j : Int)) = (xs.drop i).take (j - i) := by
  unfold cut
  rw [HT.sIx_nat, HT.sIx_nat]
  by_cases h : i ≤ xs.length
  · by_cases h2 : j ≤ xs.length
    · rw [Nat.min_eq_left h2, Nat.min_eq_left h]
    · rw [Nat.min_eq_left h, Nat.min_eq_right (by omega), List.take_of_length_le (by rw [List.length_drop]; omega), List.take_of_length_le (by rw [List.length_drop]; omega)]
  · rw [List.drop_eq_nil_of_le (as := xs) (i := i) (by omega), List.drop_eq_nil_of_le (as := xs) (i := min i xs.length) (by rw [Nat.min_eq_right (by omega)]; exact Nat.le_refl _)]
    simp
theorem slice_scr (M : Store) (xs : List D) (lo hi : Option Int) : slice M (.scr xs) lo hi = some (.nl (cut xs lo hi)) := rfl
theorem slice_lst (M : Store) (xs : List D) (lo hi : Option Int) : slice M (.lst xs) lo hi = some (.nl (cut xs lo hi)) := rfl
end Mo
/-! Mo19: more rules: equality, the store's end, loops. -/
namespace Mo
open PySem PySem.Spec L2
open PyProof.Rows hiding St

/-! ### equality of data -/
def andO : Option Bool → Option Bool → Option Bool
  | some a, some b => some (a && b)
  | _, _ => none
def eqN (M : Store) (n : Nat) (a b : D) : Option Bool := match toPd M n a, toPd M n b with
  | some p, some q => some (PyData.eqv p q)
  | _, _ => none
def eqL (M : Store) (n : Nat) (xs ys : List D) : Option Bool := match mapO (toPd M n) xs, mapO (toPd M n) ys with
  | some p, some q => some (PyData.eqvAll p q)
  | _, _ => none
@[simp] theorem eqD_n (M : Store) (a b : D) : eqD M a b = eqN M 8 a b := rfl
section
variable {M : Store} {n : Nat}
@[simp] theorem andO_tt (a b : Bool) : andO (some a) (some b) = some (a && b) := rfl
@[simp] theorem eqN_int (i j : Int) : eqN M (n + 1) (.int i) (.int j) = some (decide (i = j)) := by
  show some (PyData.eqv (.int i) (.int j)) = _
  simp [PyData.eqv]
  rfl
@[simp] theorem eqN_bl (i j : Bool) : eqN M (n + 1) (.bl i) (.bl j) = some (decide (i = j)) := by
  show some (PyData.eqv (.bool i) (.bool j)) = _
  cases i <;> cases j <;> rfl
@[simp] theorem eqN_non : eqN M (n + 1) .non .non = some true := rfl
@[simp] theorem eqN_non_int (i : Int) : eqN M (n + 1) .non (.int i) = some false := rfl
@[simp] theorem eqN_int_non (i : Int) : eqN M (n + 1) (.int i) .non = some false := rfl
@[simp] theorem eqN_sy (i j : Nat) : eqN M (n + 1) (.sy i) (.sy j) = some (decide (i = j)) := by
  show some (PyData.eqv (.str (nm i)) (.str (nm j))) = _
  simp only [PyData.eqv, nm_beq]
  by_cases h : i = j <;> simp [h]
@[simp] theorem eqN_non_sy (i : Nat) : eqN M (n + 1) .non (.sy i) = some false := rfl
@[simp] theorem eqN_sy_non (i : Nat) : eqN M (n + 1) (.sy i) .non = some false := rfl
theorem eqN_str {x y : PySem.Str} (h : PyData.strOk x = true) (h2 : PyData.strOk y = true) : eqN M (n + 1) (.str x) (.str y) = some (decide (x = y)) := by
  show (match (if PyData.strOk x = true then some (PyData.str x) else none), (if PyData.strOk y = true then some (PyData.str y) else none) with
    | some p, some q => some (PyData.eqv p q)
    | _, _ => none) = _
  rw [if_pos h, if_pos h2]
  show some (PyData.eqv _ _) = _
  simp only [PyData.eqv]
  exact congrArg some (Bool.beq_eq_decide_eq x y)
theorem eqN_sy_str {i : Nat} {y : PySem.Str} (h2 : PyData.strOk y = true) : eqN M (n + 1) (.sy i) (.str y) = some (decide (nm i = y)) := by
  show (match some (PyData.str (nm i)), (if PyData.strOk y = true then some (PyData.str y) else none) with
    | some p, some q => some (PyData.eqv p q)
    | _, _ => none) = _
  rw [if_pos h2]
  show some (PyData.eqv _ _) = _
  simp only [PyData.eqv]
  exact congrArg some (Bool.beq_eq_decide_eq _ y)
theorem eqN_str_sy {i : Nat} {y : PySem.Str} (h2 : PyData.strOk y = true) : eqN M (n + 1) (.str y) (.sy i) = some (decide (y = nm i)) := by
  show (match (if PyData.strOk y = true then some (PyData.str y) else none), some (PyData.str (nm i)) with
    | some p, some q => some (PyData.eqv p q)
    | _, _ => none) = _
  rw [if_pos h2]
  show some (PyData.eqv _ _) = _
  simp only [PyData.eqv]
  exact congrArg some (Bool.beq_eq_decide_eq y _)
@[simp] theorem eqN_tup (xs ys : List D) : eqN M (n + 1) (.tup xs) (.tup ys) = eqL M n xs ys := by
  show (match (mapO (toPd M n) xs).map PyData.tuple, (mapO (toPd M n) ys).map PyData.tuple with
    | some p, some q => some (PyData.eqv p q)
    | _, _ => none) = _
  unfold eqL
  cases mapO (toPd M n) xs <;> cases mapO (toPd M n) ys <;> simp [PyData.eqv]
@[simp] theorem eqN_lst (xs ys : List D) : eqN M (n + 1) (.lst xs) (.lst ys) = eqL M n xs ys := by
  show (match (mapO (toPd M n) xs).map PyData.list, (mapO (toPd M n) ys).map PyData.list with
    | some p, some q => some (PyData.eqv p q)
    | _, _ => none) = _
  unfold eqL
  cases mapO (toPd M n) xs <;> cases mapO (toPd M n) ys <;> simp [PyData.eqv]
@[simp] theorem eqN_ktup (xs ys : List D) : eqN M (n + 1) (.tup xs) (.ktup ys) = eqL M n xs ys := eqN_tup xs ys
@[simp] theorem eqN_ktup2 (xs ys : List D) : eqN M (n + 1) (.ktup xs) (.tup ys) = eqL M n xs ys := eqN_tup xs ys
@[simp] theorem eqN_ktup3 (xs ys : List D) : eqN M (n + 1) (.ktup xs) (.ktup ys) = eqL M n xs ys := eqN_tup xs ys
@[simp] theorem eqL_nil : eqL M n [] [] = some true := rfl
@[simp] theorem eqL_cons (x y : D) (xs ys : List D) : eqL M n (x :: xs) (y :: ys) = andO (eqN M n x y) (eqL M n xs ys) := by
  unfold eqL eqN
  simp only [mapO]
  cases toPd M n x <;> cases toPd M n y <;> cases mapO (toPd M n) xs <;> cases mapO (toPd M n) ys <;> simp [andO, PyData.eqvAll]
@[simp] theorem eqL_ints (ns ms : List Int) : eqL M (n + 1) (ns.map D.int) (ms.map D.int) = some (decide (ns = ms)) := by
  unfold eqL
  rw [toPd_ints, toPd_ints]
  simp only [eqv_ints]
@[simp] theorem eqL_ints0 (ns : List Int) : eqL M (n + 1) (ns.map D.int) [] = some (decide (ns = [])) := eqL_ints ns []
@[simp] theorem eqL_0ints (ns : List Int) : eqL M (n + 1) [] (ns.map D.int) = some (decide (ns = [])) := by
  have := eqL_ints (M := M) (n := n) [] ns
  rw [List.map_nil] at this
  rw [this]
  congr 1
  exact decide_eq_decide.mpr ⟨fun h => h.symm, fun h => h.symm⟩
end
/-- plain data, no deeper than n -/
def okDn : Nat → D → Bool
  | 0, _ => false
  | _ + 1, .non => true
  | _ + 1, .bl _ => true
  | _ + 1, .int _ => true
  | _ + 1, .str x => PyData.strOk x
  | _ + 1, .sy _ => true
  | n + 1, .tup xs => xs.all (okDn n)
  | n + 1, .ktup xs => xs.all (okDn n)
  | n + 1, .lst xs => xs.all (okDn n)
  | n + 1, .scr xs => xs.all (okDn n)
  | _ + 1, .oid _ => false
  | _ + 1, .exr => false
theorem okL_self {M : Store} {n : Nat} (ih : ∀ d, okDn n d = true → ∃ p, toPd M n d = some p ∧ PyData.eqv p p = true) : ∀ xs : List D, xs.all (okDn n) = true → ∃ ps, mapO (toPd M n) xs = some ps ∧ PyData.eqvAll ps ps = true
  | [], _ => ⟨[], rfl, rfl⟩
  | x :: xs, h => by
    rw [List.all_cons, Bool.and_eq_true] at h
    obtain ⟨p, h1, h2⟩ := ih x h.1
    obtain ⟨ps, h3, h4⟩ := okL_self ih xs h.2
    exact ⟨p :: ps, by rw [mapO, h1, h3], by simp [PyData.eqvAll, h2, h4]⟩
theorem okDn_self {M : Store} : ∀ (n : Nat) (d : D), okDn n d = true → ∃ p, toPd M n d = some p ∧ PyData.eqv p p = true
  | 0, _, h => by cases h
  | n + 1, .non, _ => ⟨_, rfl, rfl⟩
  | n + 1, .bl b, _ => ⟨_, rfl, by cases b <;> rfl⟩
  | n + 1, .int i, _ => ⟨_, rfl, by simp [PyData.eqv]⟩
  | n + 1, .str x, h => ⟨.str x, if_pos h, by simp [PyData.eqv]⟩
  | n + 1, .sy i, _ => ⟨_, rfl, by simp [PyData.eqv]⟩
  | n + 1, .tup xs, h => by
    obtain ⟨ps, h1, h2⟩ := okL_self (okDn_self n) xs h
    exact ⟨.tuple ps, by show (mapO (toPd M n) xs).map PyData.tuple = _; rw [h1]; rfl, by simpa [PyData.eqv] using h2⟩
  | n + 1, .ktup xs, h => by
    obtain ⟨ps, h1, h2⟩ := okL_self (okDn_self n) xs h
    exact ⟨.tuple ps, by show (mapO (toPd M n) xs).map PyData.tuple = _; rw [h1]; rfl, by simpa [PyData.eqv] using h2⟩
  | n + 1, .lst xs, h => by
    obtain ⟨ps, h1, h2⟩ := okL_self (okDn_self n) xs h
    exact ⟨.list ps, by show (mapO (toPd M n) xs).map PyData.list = _; rw [h1]; rfl, by simpa [PyData.eqv] using h2⟩
  | n + 1, .scr xs, h => by
    obtain ⟨ps, h1, h2⟩ := okL_self (okDn_self n) xs h
    exact ⟨.list ps, by show (mapO (toPd M n) xs).map PyData.list = _; rw [h1]; rfl, by simpa [PyData.eqv] using h2⟩
  | n + 1, .oid _, h => by cases h
  | n + 1, .exr, h => by cases h
theorem eqN_self {M : Store} {n : Nat} {d : D} (h : okDn n d = true) : eqN M n d d = some true := by
  obtain ⟨p, h1, h2⟩ := okDn_self (M := M) n d h
  unfold eqN
  rw [h1]
  exact congrArg some h2
theorem eqD_self {M : Store} {d : D} (h : okDn 8 d = true) : eqD M d d = some true := eqN_self h
section
variable {n : Nat}
@[simp] theorem okDn_int (i : Int) : okDn (n + 1) (.int i) = true := by simp [okDn]
@[simp] theorem okDn_bl (i : Bool) : okDn (n + 1) (.bl i) = true := by simp [okDn]
@[simp] theorem okDn_non : okDn (n + 1) .non = true := by simp [okDn]
@[simp] theorem okDn_sy (i : Nat) : okDn (n + 1) (.sy i) = true := by simp [okDn]
@[simp] theorem okDn_str (i : PySem.Str) : okDn (n + 1) (.str i) = PyData.strOk i := rfl
@[simp] theorem okDn_tup (xs : List D) : okDn (n + 1) (.tup xs) = xs.all (okDn n) := rfl
@[simp] theorem okDn_ktup (xs : List D) : okDn (n + 1) (.ktup xs) = xs.all (okDn n) := rfl
@[simp] theorem okDn_lst (xs : List D) : okDn (n + 1) (.lst xs) = xs.all (okDn n) := rfl
@[simp] theorem okDn_ints (ns : List Int) : (ns.map D.int).all (okDn (n + 1)) = true := by
  simp
end
/-! ### objects -/
def tV : Option Ob → Option (List D)
  | some (.lst xs) => some xs
  | _ => none
@[simp] theorem tV_lst (xs : List D) : tV (some (.lst xs)) = some xs := rfl
theorem viewL_get (M : Store) (n : Nat) : viewL M (.oid n) = tV M[n]? := by
  show (match M[n]? with
    | some (.lst xs) => some xs
    | _ => none) = _
  cases M[n]? with
  | none => rfl
  | some o => cases o <;> rfl
def tEq (M : Store) (n : Nat) (d : D) : Option Ob → Option Bool
  | some (.lst xs) => eqN M n (.lst xs) d
  | _ => none
def tEq2 (M : Store) (n : Nat) (d : D) : Option Ob → Option Bool
  | some (.lst xs) => eqN M n d (.lst xs)
  | _ => none
@[simp] theorem tEq_lst (M : Store) (n : Nat) (d : D) (xs : List D) : tEq M n d (some (.lst xs)) = eqN M n (.lst xs) d := rfl
@[simp] theorem tEq2_lst (M : Store) (n : Nat) (d : D) (xs : List D) : tEq2 M n d (some (.lst xs)) = eqN M n d (.lst xs) := rfl
theorem toPd_oid (M : Store) (n k : Nat) : toPd M (n + 1) (.oid k) = (match M[k]? with
    | some (.lst xs) => toPd M (n + 1) (.lst xs)
    | _ => none) := by
  show (match M[k]? with
    | some (.lst xs) => (mapO (toPd M n) xs).map PyData.list
    | _ => none) = _
  cases M[k]? with
  | none => rfl
  | some o => cases o <;> rfl
theorem eqN_oid (M : Store) (n k : Nat) (d : D) : eqN M (n + 1) (.oid k) d = tEq M (n + 1) d M[k]? := by
  unfold eqN
  rw [toPd_oid]
  cases M[k]? with
  | none => rfl
  | some o => cases o <;> rfl
theorem eqN_oid2 (M : Store) (n k : Nat) (d : D) : eqN M (n + 1) d (.oid k) = tEq2 M (n + 1) d M[k]? := by
  unfold eqN
  rw [toPd_oid]
  cases M[k]? with
  | none => cases toPd M (n + 1) d <;> rfl
  | some o => cases o <;> first | rfl | (cases toPd M (n + 1) d <;> rfl)
/-! ### the store's end -/
@[simp] theorem get_end0 (M N : Store) : (M ++ N)[M.length]? = N[0]? := by
  rw [List.getElem?_append_right (Nat.le_refl _), Nat.sub_self]
@[simp] theorem get_endk (M N : Store) (k : Nat) : (M ++ N)[M.length + k]? = N[k]? := by
  rw [List.getElem?_append_right (Nat.le_add_right _ _), Nat.add_sub_cancel_left]
@[simp] theorem set_end0 (M N : Store) (o : Ob) : (M ++ N).set M.length o = M ++ N.set 0 o := by
  rw [List.set_append_right _ _ (Nat.le_refl _), Nat.sub_self]
@[simp] theorem set_endk (M N : Store) (k : Nat) (o : Ob) : (M ++ N).set (M.length + k) o = M ++ N.set k o := by
  rw [List.set_append_right _ _ (Nat.le_add_right _ _), Nat.add_sub_cancel_left]
/-! ### contracts that change nothing -/
theorem cl_ok {M : Store} {d : D} {r : Rs D} (hM : StB M) (hb : D.bnd M.length d = true) (h : ∃ N, r = some (.ok d (M ++ N))) : Cl M.length (some (.ok d M)) r := ⟨Nat.le_refl _, hM, hb, h⟩
theorem cl_exc {M : Store} {x : Exn} {r : Rs D} (hM : StB M) (hb : Fs.bnd M.length x.fs = true) (h : ∃ N, r = some (.exc x (M ++ N))) : Cl M.length (some (.exc x M)) r := ⟨Nat.le_refl _, hM, hb, h⟩
@[simp] theorem bnd_dint (n : Nat) (i : Int) : D.bnd n (.int i) = true := rfl
@[simp] theorem bnd_dbl (n : Nat) (i : Bool) : D.bnd n (.bl i) = true := rfl
@[simp] theorem bnd_dnon (n : Nat) : D.bnd n .non = true := rfl
@[simp] theorem bnd_dsy (n i : Nat) : D.bnd n (.sy i) = true := rfl
@[simp] theorem bnd_dstr (n : Nat) (i : PySem.Str) : D.bnd n (.str i) = true := rfl
@[simp] theorem bnd_dtup (n : Nat) (xs : List D) : D.bnd n (.tup xs) = Ds.bnd n xs := rfl
@[simp] theorem bnd_dlst (n : Nat) (xs : List D) : D.bnd n (.lst xs) = Ds.bnd n xs := rfl
@[simp] theorem bnd_dktup (n : Nat) (xs : List D) : D.bnd n (.ktup xs) = Ds.bnd n xs := rfl
@[simp] theorem bnd_nil (n : Nat) : Ds.bnd n [] = true := rfl
@[simp] theorem bnd_cons (n : Nat) (d : D) (ds : List D) : Ds.bnd n (d :: ds) = (D.bnd n d && Ds.bnd n ds) := rfl
@[simp] theorem bnd_ints (n : Nat) : ∀ ns : List Int, Ds.bnd n (ns.map D.int) = true
  | [] => rfl
  | _ :: ns => bnd_ints n ns
/-! ### loops -/
theorem forL_inv {g : Option (Nat × List D)} {kl : List Nat} {F : D → Sl → Store → Option SO} {δ : Sl} (hk : kill δ kl = δ) (P : Nat → Store → Prop) (hg : ∀ i M, P i M → gdOk g M) :
    ∀ (xs : List D) (n : Nat) (M : Store), P n M → (∀ i M x, xs[i]? = some x → P (n + i) M → ∃ M', P (n + i + 1) M' ∧ killN kl (F x δ M) = some (.nx δ M')) →
      ∃ M', P (n + xs.length) M' ∧ forL g kl F xs δ M = some (.nx δ M')
  | [], n, M, p, _ => ⟨M, p, by rw [forL_nil, if_pos (hg _ M p), hk]⟩
  | x :: xs, n, M, p, hs => by
    obtain ⟨M1, p1, e⟩ := hs 0 M x rfl p
    obtain ⟨δ', e1, e2⟩ := killN_nx_of e
    obtain ⟨M2, p2, e3⟩ := forL_inv (F := F) hk P hg xs (n + 1) M1 p1 fun i M y hy pm => by
      have := hs (i + 1) M y (by simpa using hy) (by rw [show n + (i + 1) = n + 1 + i by omega]; exact pm)
      rwa [show n + (i + 1) = n + 1 + i by omega] at this
    refine ⟨M2, by rw [List.length_cons, show n + (xs.length + 1) = n + 1 + xs.length by omega]; exact p2, ?_⟩
    rw [forL_cons, if_pos (hg _ M p)]
    rcases e1 with e1 | e1 <;>
    · rw [e1]
      show forL g kl F xs (kill δ' kl) _ = _
      rw [e2]
      exact e3
/-- a loop whose turns find the same names each time, whatever the store -/
theorem forL_any {kl : List Nat} {F : D → Sl → Store → Option SO} {δ : Sl} (hk : kill δ kl = δ) (xs : List D) (M : Store) (hs : ∀ x ∈ xs, ∀ M, ∃ M', killN kl (F x δ M) = some (.nx δ M')) :
    ∃ M', forL none kl F xs δ M = some (.nx δ M') := by
  obtain ⟨M', _, h⟩ := forL_inv (g := none) (F := F) hk (fun _ _ => True) (fun _ _ _ => trivial) xs 0 M trivial fun i M x hx _ => by
    obtain ⟨M', h⟩ := hs x (List.mem_of_getElem? hx) M
    exact ⟨M', trivial, h⟩
  exact ⟨M', h⟩
/-- a loop whose turns leave all as it is -/
theorem forL_same {kl : List Nat} {F : D → Sl → Store → Option SO} {δ : Sl} (hk : kill δ kl = δ) (xs : List D) (M : Store) (hs : ∀ x ∈ xs, killN kl (F x δ M) = some (.nx δ M)) :
    forL none kl F xs δ M = some (.nx δ M) := by
  obtain ⟨M', e, h⟩ := forL_inv (g := none) (F := F) hk (fun _ N => N = M) (fun _ _ _ => trivial) xs 0 M rfl fun i N x hx e => by
    subst e
    exact ⟨_, rfl, hs x (List.mem_of_getElem? hx)⟩
  subst e
  exact h
/-- the cells of a script -/
theorem forL_cells {kl : List Nat} {F : D → Sl → Store → Option SO} {δ : Sl} (hk : kill δ kl = δ) (ns : List Int) (k : Nat) (M : Store) (hs : ∀ (t : Nat) (c : Int) (M : Store), t < k → ∃ M', killN kl (F (.tup [.int (t : Int), .int c]) δ M) = some (.nx δ M')) :
    ∃ M', forL none kl F (((ns.map D.int).take k).zipIdx.map fun p => .tup [.int (p.2 : Int), p.1]) δ M = some (.nx δ M') := by
  refine forL_any hk _ M fun x hx M => ?_
  obtain ⟨i, hx⟩ := List.mem_iff_getElem?.mp hx
  rw [List.getElem?_map, List.getElem?_zipIdx] at hx
  obtain ⟨⟨d, j⟩, h1, h2⟩ := Option.map_eq_some_iff.mp hx
  obtain ⟨d', h3, h4⟩ := Option.map_eq_some_iff.mp h1
  cases h4
  have h5 : i < k := by
    have := (List.getElem?_eq_some_iff.mp h3).1
    rw [List.length_take] at this
    omega
  obtain ⟨c, _, rfl⟩ := List.mem_map.mp (List.mem_of_mem_take (List.mem_of_getElem? h3))
  subst h2
  have := hs i c M h5
  simpa using this
end Mo
/-! Mo20: exception classes with fields; one class against another. -/
namespace Mo
open PySem PySem.Spec L2
open PyProof.Rows hiding St

def asgB (s a : PySem.Str) (f : Nat) : Stmt → Bool
  | .Assign [.Attribute (.Name s' _) f' _] (.Name a' _) _ => s' == s && (a' == a && f' == nm f)
  | _ => false
theorem asgB_of {s a : PySem.Str} {f : Nat} {st : Stmt} (h : asgB s a f st = true) : ∃ p1 p2 p3 p4, st = .Assign [.Attribute (.Name s p1) (nm f) p2] (.Name a p3) p4 := by
  unfold asgB at h
  split at h
  · simp only [Bool.and_eq_true, beq_iff_eq] at h
    obtain ⟨rfl, rfl, rfl⟩ := h
    exact ⟨_, _, _, _, rfl⟩
  · cases h
def iniB : List PySem.Str → List Nat → List Stmt → Bool
  | [s, a], [f], [b] => okName s && (okName a && asgB s a f b)
  | [s, a, a2], [f, f2], [b, b2] => okName s && (okName a && (okName a2 && (asgB s a f b && asgB s a2 f2 b2)))
  | _, _, _ => false
section
variable {P : Program} {w : World} {K : PySem.W.Frag} {mg : PySem.Str → Option Value} {base : Heap} {g : Gd}
theorem ex_in {x qual : PySem.Str} {c : Nat} {ks : List Nat} {st : Stmt} {fI : Addr} {fd : FuncData} {N : List PySem.Str} (gC : mg x = some (.ref (g.ca c))) (T : OexC K (g.ca c)) (nd : ks.Nodup) (le : ks.length = 1 ∨ ks.length = 2)
    (iI : PySem.W.findIn K (.ref (g.ca c)) "__init__" = some (some (.ref fI))) (tI : PySem.W.typeIn K (.ref fI) = some (.type "function")) (F : Fun K "__init__" qual st fI fd) (S : FnScope N N (defScope st)) (B : Binds K fd N [])
    (chk : iniB N ks (defBody st) = true) (hno : ∀ f ∈ ks, PySem.W.findIn K (.ref (g.ca c)) (nm f) = some none) : ExIn P w K mg base g x c ks 1 := by
  refine ⟨gC, T, nd, le, fI, fd, N, iI, tI, B, ?_⟩
  have vis : ∀ x ∈ N, Vis (defScope st) x := fun x hx => by
    rcases S.par x hx with h | h
    · exact .inl h
    · exact .inr (.inl h)
  unfold iniB at chk
  split at chk
  · rename_i s a f b e
    obtain ⟨h1, k2⟩ := and1 chk
    obtain ⟨h2, k3⟩ := and1 k2
    obtain ⟨p1, p2, p3, p4, rfl⟩ := asgB_of k3
    refine F.okX S (fun vs H Q E ⟨a, y, e, _⟩ => by rw [e]; rfl) fun cdv A outer s0 H vs Q E hr ⟨ad, y, ev, ea, q⟩ => ?_
    subst ev
    refine ⟨_, by rw [e]; exact pss_one (ps_ost (pe_var (i := 0) rfl (vis _ (by simp)) (okName1 h1) (okName2 h1)) (pe_var (i := 1) rfl (vis _ (by simp)) (okName1 h2) (okName2 h2))), ?_⟩
    exact ⟨y, rfl, .ref ad, rfl, ad, g.ca c, rfl, T, hno f (by simp), .inl ⟨ea, fun dx n ne => q dx n ne⟩⟩
  · rename_i s a a2 f f2 b b2 e
    obtain ⟨h1, k2⟩ := and1 chk
    obtain ⟨h2, k3⟩ := and1 k2
    obtain ⟨h3, k4⟩ := and1 k3
    obtain ⟨k5, k6⟩ := and1 k4
    obtain ⟨p1, p2, p3, p4, rfl⟩ := asgB_of k5
    obtain ⟨r1, r2, r3, r4, rfl⟩ := asgB_of k6
    refine F.okX S (fun vs H Q E ⟨a, y, z, e, _⟩ => by rw [e]; rfl) fun cdv A outer s0 H vs Q E hr ⟨ad, y, z, ev, ea, q⟩ => ?_
    subst ev
    refine ⟨_, by rw [e]; exact pss_cons (ps_ost (pe_var (i := 0) rfl (vis _ (by simp)) (okName1 h1) (okName2 h1)) (pe_var (i := 1) rfl (vis _ (by simp)) (okName1 h2) (okName2 h2))) (pss_one (ps_ost (pe_var (i := 0) rfl (vis _ (by simp)) (okName1 h1) (okName2 h1)) (pe_var (i := 2) rfl (vis _ (by simp)) (okName1 h3) (okName2 h3)))), ?_⟩
    refine ⟨y, rfl, .ref ad, rfl, ad, g.ca c, rfl, T, hno f (by simp), .inl ⟨ea, fun dx n ne => ?_⟩⟩
    refine ⟨z, rfl, .ref ad, rfl, ad, g.ca c, rfl, T, hno f2 (by simp), .inr ⟨dx, [(nm f, y)], upd_same .., ?_, by simp, q dx n ne⟩⟩
    rw [upd_ne ne]
    exact upd_same ..
  · cases chk
theorem exm_of {S D : Addr} {b : Bool} (h1 : PySem.W.subIn K (.ref S) (.type "BaseException") = some true) (h0 : PySem.W.subIn K (.ref D) (.type "BaseException") = some true) (h2 : PySem.W.isClsIn K D = true) (h3 : PySem.W.typeIn K (.ref D) = some (.type "type")) (h4 : PySem.W.subIn K (.ref S) (.ref D) = some b) :
    PySem.W.exmOne K (.ref S) (.ref D) = some b := by
  have e1 : (PySem.W.subIn K (.ref D) (.type "BaseException") == some true) = true := by rw [h0]; rfl
  have e2 : ((PySem.W.clsIn K D).isSome && PySem.W.typeIn K (.ref D) == some (.type "type")) = true := by
    have h2' : (PySem.W.clsIn K D).isSome = true := h2
    rw [h2', h3]; rfl
  show (if (PySem.W.subIn K (.ref D) (.type "BaseException") == some true) = true then (if ((PySem.W.clsIn K D).isSome && PySem.W.typeIn K (.ref D) == some (.type "type")) = true then PySem.W.subIn K (.ref S) (.ref D) else none) else none) = some b
  rw [if_pos e1, if_pos e2]
  exact h4
end
end Mo
/-! Mo21: texts by their signs. -/
namespace Mo
open PySem PySem.Spec L2
open PyProof.Rows hiding St

def tx (a : List Nat) : PySem.Str := ⟨a.toArray⟩
def okT (a : List Nat) : Bool := a.all (· < 1114112)
@[simp] theorem okT_nil : okT [] = true := by simp [okT]
@[simp] theorem okT_cons (c : Nat) (a : List Nat) : okT (c :: a) = (decide (c < 1114112) && okT a) := rfl
@[simp] theorem okT_app (a b : List Nat) : okT (a ++ b) = (okT a && okT b) := List.all_append
theorem tx_cps (a : List Nat) : (tx a).cps = a.toArray := rfl
@[simp] theorem tx_list (a : List Nat) : (tx a).cps.toList = a := rfl
@[simp] theorem tx_len (a : List Nat) : (tx a).length = a.length := by
  show a.toArray.size = _
  simp
@[simp] theorem tx_app (a b : List Nat) : tx a ++ tx b = tx (a ++ b) := by
  show (⟨a.toArray ++ b.toArray⟩ : PySem.Str) = ⟨(a ++ b).toArray⟩
  congr 1
  simp
@[simp] theorem tx_inj (a b : List Nat) : tx a = tx b ↔ a = b := ⟨fun h => by
  have := congrArg (fun s : PySem.Str => s.cps.toList) h
  exact this, fun h => h ▸ rfl⟩
theorem tx_ok {a : List Nat} : PyData.strOk (tx a) = okT a := by
  unfold PyData.strOk okT
  show a.toArray.all _ = _
  simp
theorem tx_of (x : PySem.Str) : x = tx x.cps.toList := rfl
theorem cutS_tx (a : List Nat) (lo hi : Option Int) : L2.cutS (tx a) lo hi = tx (cut a lo hi) := by
  unfold L2.cutS cut
  rw [tx_len]
  rfl
section
variable {M : Store} {n : Nat}
@[simp] theorem pIx_tx (a : List Nat) (i : Int) : pIx [.str (tx a), .int i] M = if a.length ≤ line then (match atI a i with
    | some c => some (.v (.str (tx [c])) M)
    | none => none) else none := by
  show (if (tx a).length ≤ line then _ else _) = _
  rw [tx_len]
  rfl
@[simp] theorem pAdd_tx (a b : List Nat) : pAdd [.str (tx a), .str (tx b)] M = if a.length + b.length ≤ line then some (.v (.str (tx (a ++ b))) M) else none := by
  show (if (tx a).length + (tx b).length ≤ line then some (PO.v (.str (tx a ++ tx b)) M) else none) = _
  rw [tx_len, tx_len, tx_app]
@[simp] theorem itemsR_tx (a : List Nat) : itemsR .ex [.str (tx a)] M = if a.length ≤ line then some (.ok ⟨a.map fun c => .str (tx [c]), none⟩ M) else none := by
  rw [itemsR_str, tx_len]
  rfl
theorem slice_tx (a : List Nat) (lo hi : Option Int) : slice M (.str (tx a)) lo hi = if a.length ≤ line then some (.v (.str (tx (cut a lo hi))) M) else none := by
  show (if (tx a).length ≤ line then some (PO.v (.str (L2.cutS (tx a) lo hi)) M) else none) = _
  rw [tx_len, cutS_tx]
@[simp] theorem okDn_tx (a : List Nat) : okDn (n + 1) (.str (tx a)) = okT a := tx_ok
@[simp] theorem eqN_tx (a b : List Nat) (h : okT a = true) (h2 : okT b = true) : eqN M (n + 1) (.str (tx a)) (.str (tx b)) = some (decide (a = b)) := by
  rw [eqN_str (tx_ok.trans h) (tx_ok.trans h2)]
  congr 1
  exact decide_eq_decide.mpr (tx_inj a b)
@[simp] theorem inD_tx (c : Nat) (a : List Nat) : inD M (.str (tx [c])) (.str (tx a)) = some (decide (c ∈ a)) := rfl
theorem pInt_tx {a : List Nat} (h : a.all (fun c => decide (48 ≤ c) && decide (c ≤ 57)) = true) (hne : a ≠ []) (hl : a.length ≤ 640) : pInt [.str (tx a)] M = some (.v (.int (NumText.digitsVal a : Nat)) M) := by
  have e := PySem.intText_digits (x := tx a) (fun c hc => by
    have z : (decide (48 ≤ c) && decide (c ≤ 57)) = true := List.all_eq_true.mp h c hc
    rw [Bool.and_eq_true, decide_eq_true_eq, decide_eq_true_eq] at z
    exact z) hne (by rw [tx_len]; omega)
  show (if (tx a).length ≤ 640 then (match PySem.intText? (tx a) with
      | some n => some (PO.v (.int n) M)
      | none => none) else none) = _
  rw [tx_len, if_pos hl]
  have e2 : PySem.intText? (tx a) = some ((NumText.digitsVal a : Nat) : Int) := e
  rw [e2]
theorem pInt_one {c : Nat} (h : 48 ≤ c) (h2 : c ≤ 57) : pInt [.str (tx [c])] M = some (.v (.int ((c : Int) - 48)) M) := by
  rw [pInt_tx (by simp [h, h2]) (by simp) (by simp)]
  unfold NumText.digitsVal
  simp only [List.foldl_cons, List.foldl_nil]
  congr 3
  omega
theorem pStr_nat {k : Nat} (h : k < 2 ^ 1900) : pStr [.int (k : Int)] M = some (.v (.str (tx (TL.numL k))) M) := by
  show (if (k : Int).natAbs < 2 ^ 1900 then some (PO.v (.str (toString (k : Int))) M) else none) = _
  rw [if_pos (by simpa using h)]
  have e : PySem.Str.ofString (toString ((k : Nat) : Int)) = tx (TL.numL k) := by
    have := TL.tl_num k
    rw [tx_of (PySem.Str.ofString (toString ((k : Nat) : Int)))]
    exact congrArg tx this
  rw [← e]
theorem pStr_one {k : Nat} (h : k < 10) : pStr [.int (k : Int)] M = some (.v (.str (tx [48 + k])) M) := by
  rw [pStr_nat (Nat.lt_of_lt_of_le h (by decide +kernel)), TL.numL_lt h]
@[simp] theorem pOrd_tx (c : Nat) : pOrd [.str (tx [c])] M = some (.v (.int (c : Int)) M) := rfl
@[simp] theorem truth_tx (a : List Nat) : truth M (.str (tx a)) = if a.length ≤ line then some (a.length != 0) else none := by
  show (if (tx a).length ≤ line then some ((tx a).length != 0) else none) = _
  rw [tx_len]
end
/-! ### in a list -/
def orO : Option Bool → Option Bool → Option Bool
  | some a, some b => some (a || b)
  | _, _ => none
@[simp] theorem orO_tt (a b : Bool) : orO (some a) (some b) = some (a || b) := rfl
def inLs (M : Store) (x : D) : List D → Option Bool
  | [] => (toPd M 7 x).map fun _ => false
  | y :: ys => orO (eqN M 7 y x) (inLs M x ys)
section
variable {M : Store}
theorem toPd_flat {x : D} (h : flatD x = true) : toPd M 7 x = toPd M 8 x := by
  cases x <;> first | rfl | cases h
theorem inL_eq (x : D) : ∀ ys : List D, inLs M x ys = (match mapO (toPd M 7) ys, toPd M 7 x with
    | some ds, some d => some (ds.any fun z => PyData.eqv z d)
    | _, _ => none)
  | [] => by
    unfold inLs
    cases toPd M 7 x <;> rfl
  | y :: ys => by
    unfold inLs
    rw [inL_eq x ys]
    unfold eqN
    simp only [mapO]
    cases toPd M 7 y <;> cases toPd M 7 x <;> cases mapO (toPd M 7) ys <;> simp [orO]
theorem inD_lst {x : D} (h : flatD x = true) (ys : List D) : inD M x (.lst ys) = inLs M x ys := by
  rw [inL_eq, toPd_flat h]
  show inList ((mapO (toPd M 7) ys).map PyData.list) (toPd M 8 x) = _
  cases mapO (toPd M 7) ys <;> cases toPd M 8 x <;> rfl
def tIn (M : Store) (x : D) : Option Ob → Option Bool
  | some (.lst ys) => inD M x (.lst ys)
  | _ => none
@[simp] theorem tIn_lst (x : D) (ys : List D) : tIn M x (some (.lst ys)) = inD M x (.lst ys) := rfl
theorem inD_oid (x : D) (n : Nat) : inD M x (.oid n) = tIn M x M[n]? := by
  show inList (toPd M 8 (.oid n)) (toPd M 8 x) = _
  rw [toPd_oid]
  cases M[n]? with
  | none => rfl
  | some o => cases o <;> rfl
@[simp] theorem inLs_nil_sy (i : Nat) : inLs M (.sy i) [] = some false := rfl
@[simp] theorem inLs_nil_int (i : Int) : inLs M (.int i) [] = some false := rfl
@[simp] theorem inLs_nil_tx (a : List Nat) (h : okT a = true) : inLs M (.str (tx a)) [] = some false := by
  show ((if PyData.strOk (tx a) = true then some (PyData.str (tx a)) else none).map fun _ => false) = _
  rw [if_pos (tx_ok.trans h)]
  rfl
@[simp] theorem inLs_cons (x y : D) (ys : List D) : inLs M x (y :: ys) = orO (eqN M 7 y x) (inLs M x ys) := rfl
@[simp] theorem flatD_sy (i : Nat) : flatD (.sy i) = true := by simp [flatD]
@[simp] theorem flatD_int (i : Int) : flatD (.int i) = true := by simp [flatD]
@[simp] theorem flatD_str (i : PySem.Str) : flatD (.str i) = true := by simp [flatD]
@[simp] theorem flatD_non : flatD .non = true := by simp [flatD]
@[simp] theorem eqN_sy_tx {n : Nat} (i : Nat) (a : List Nat) (h : okT a = true) : eqN M (n + 1) (.sy i) (.str (tx a)) = some (decide (nm i = tx a)) := eqN_sy_str (tx_ok.trans h)
@[simp] theorem eqN_tx_sy {n : Nat} (i : Nat) (a : List Nat) (h : okT a = true) : eqN M (n + 1) (.str (tx a)) (.sy i) = some (decide (tx a = nm i)) := eqN_str_sy (tx_ok.trans h)
end
theorem nm_ne0 (i : Nat) : nm i ≠ tx [] := fun h => by
  have e : (nm i).cps.toList = [] := congrArg (fun s : PySem.Str => s.cps.toList) h
  unfold nm at e
  split at e
  · rename_i s hs
    have q := List.all_eq_true.mp symTbl_head s (List.mem_of_getElem? hs)
    rw [e] at q
    cases q
  · simp at e
@[simp] theorem nm_e0 (i : Nat) : (nm i = tx []) = False := eq_false (nm_ne0 i)
@[simp] theorem nm_e1 (i : Nat) : (tx [] = nm i) = False := eq_false fun h => nm_ne0 i h.symm
@[simp] theorem inD_lst_sy (M : Store) (i : Nat) (ys : List D) : inD M (.sy i) (.lst ys) = inLs M (.sy i) ys := inD_lst rfl ys
@[simp] theorem inD_lst_int (M : Store) (i : Int) (ys : List D) : inD M (.int i) (.lst ys) = inLs M (.int i) ys := inD_lst rfl ys
@[simp] theorem inD_lst_str (M : Store) (i : PySem.Str) (ys : List D) : inD M (.str i) (.lst ys) = inLs M (.str i) ys := inD_lst rfl ys
/-! ### a for, turn by turn -/
def stpF (o : Option SO) (kl : List Nat) (k : Sl → Store → Option SO) : Option SO := match o with
  | some (.nx δ M) => k (kill δ kl) M
  | some (.ct δ M) => k (kill δ kl) M
  | some (.bk δ M) => some (.nx (kill δ kl) M)
  | r => r
noncomputable def kFl (g : Option (Nat × List D)) (kl : List Nat) (F : D → Sl → Store → Option SO) (xs : List D) (δ : Sl) (M : Store) : Option SO := forL g kl F xs δ M
@[simp] theorem kFl_eq (g : Option (Nat × List D)) (kl : List Nat) (F : D → Sl → Store → Option SO) (xs : List D) (δ : Sl) (M : Store) : kFl g kl F xs δ M = forL g kl F xs δ M := rfl
@[simp] theorem stpF_nx (kl : List Nat) (k : Sl → Store → Option SO) (δ : Sl) (M : Store) : stpF (some (.nx δ M)) kl k = k (kill δ kl) M := rfl
@[simp] theorem stpF_ct (kl : List Nat) (k : Sl → Store → Option SO) (δ : Sl) (M : Store) : stpF (some (.ct δ M)) kl k = k (kill δ kl) M := rfl
@[simp] theorem stpF_bk (kl : List Nat) (k : Sl → Store → Option SO) (δ : Sl) (M : Store) : stpF (some (.bk δ M)) kl k = some (.nx (kill δ kl) M) := rfl
@[simp] theorem stpF_rt (kl : List Nat) (k : Sl → Store → Option SO) (d : D) (M : Store) : stpF (some (.rt d M)) kl k = some (.rt d M) := rfl
@[simp] theorem stpF_exc (kl : List Nat) (k : Sl → Store → Option SO) (x : Exn) (δ : Sl) (M : Store) : stpF (some (.exc x δ M)) kl k = some (.exc x δ M) := rfl
@[simp] theorem stpF_ite (kl : List Nat) (k : Sl → Store → Option SO) (p : Prop) [Decidable p] (a b : Option SO) : stpF (if p then a else b) kl k = if p then stpF a kl k else stpF b kl k := by split <;> rfl
theorem forL_cons2 (g : Option (Nat × List D)) (kl : List Nat) (F : D → Sl → Store → Option SO) (x : D) (xs : List D) (δ : Sl) (M : Store) : forL g kl F (x :: xs) δ M = if gdOk g M then stpF (F x δ M) kl (kFl g kl F xs) else none := by
  rw [forL_cons]
  have e : stpF (F x δ M) kl (kFl g kl F xs) = (match F x δ M with
      | some (.nx δ' M') => forL g kl F xs (kill δ' kl) M'
      | some (.ct δ' M') => forL g kl F xs (kill δ' kl) M'
      | some (.bk δ' M') => some (.nx (kill δ' kl) M')
      | r => r) := by
    cases F x δ M with
    | none => rfl
    | some o => cases o <;> rfl
  rw [e] <;> rfl
/-! ### digits -/
def dig (a : List Nat) : Bool := a.all fun c => decide (48 ≤ c) && decide (c ≤ 57)
@[simp] theorem dig_nil : dig [] = true := by simp [dig]
@[simp] theorem dig_cons (c : Nat) (a : List Nat) : dig (c :: a) = ((decide (48 ≤ c) && decide (c ≤ 57)) && dig a) := rfl
@[simp] theorem dig_app (a b : List Nat) : dig (a ++ b) = (dig a && dig b) := List.all_append
theorem dig_okT : ∀ {a : List Nat}, dig a = true → okT a = true
  | [], _ => rfl
  | c :: a, h => by
    rw [dig_cons, Bool.and_eq_true, Bool.and_eq_true, decide_eq_true_eq, decide_eq_true_eq] at h
    rw [okT_cons, dig_okT h.2, Bool.and_true, decide_eq_true_eq]
    omega
theorem cut_last {α : Type} (xs : List α) (k : Nat) (hk : 0 < k) : cut xs (some (-(k : Int))) none = xs.drop (xs.length - k) := by
  unfold cut
  rw [HT.sIx_none]
  have e : HT.sIx xs.length 0 (some (-(k : Int))) = xs.length - k := by
    show (if -(k : Int) < 0 then (-(k : Int) + (xs.length : Int)).toNat else min (-(k : Int)).toNat xs.length) = _
    rw [if_pos (by omega)]
    omega
  rw [e]
  exact List.take_of_length_le (by rw [List.length_drop]; omega)
theorem atI_nat {α : Type} {xs : List α} {k : Nat} (h : k < xs.length) : atI xs (k : Int) = xs[k]? := by
  unfold atI
  rw [ixN_nat h]
  rfl
theorem atI_neg {α : Type} {xs : List α} {k : Nat} (h0 : 0 < k) (h : k ≤ xs.length) : atI xs (-(k : Int)) = xs[xs.length - k]? := by
  unfold atI ixN
  rw [if_neg (by omega), if_pos (by omega)]
  show xs[_]? = _
  congr 1
  omega
theorem dig_at {k : Int} (h : 0 ≤ k) (h2 : k < 10) : atI [48, 49, 50, 51, 52, 53, 54, 55, 56, 57] k = some (48 + k.toNat) := by
  obtain ⟨n, rfl⟩ := Int.eq_ofNat_of_zero_le h
  have : n < 10 := by omega
  rw [atI_nat (by simpa using this)]
  have : n = 0 ∨ n = 1 ∨ n = 2 ∨ n = 3 ∨ n = 4 ∨ n = 5 ∨ n = 6 ∨ n = 7 ∨ n = 8 ∨ n = 9 := by omega
  rcases this with rfl | rfl | rfl | rfl | rfl | rfl | rfl | rfl | rfl | rfl <;> rfl
theorem last3 {α : Type} {xs : List α} (h : 3 ≤ xs.length) : ∃ p x y z, xs = p ++ [x, y, z] := by
  have e := List.take_append_drop (xs.length - 3) xs
  have hl : (xs.drop (xs.length - 3)).length = 3 := by rw [List.length_drop]; omega
  match hd : xs.drop (xs.length - 3), hl with
  | [x, y, z], _ => exact ⟨_, x, y, z, by rw [← hd]; exact e.symm⟩
end Mo
/-! Mo22: objects that are lists; comprehensions over two; while; bits. -/
namespace Mo
open PySem PySem.Spec L2
open PyProof.Rows hiding St

section
variable {M : Store}
def tLen : Option Ob → Option Nat
  | some (.lst xs) => some xs.length
  | some (.dk kvs) => some kvs.length
  | _ => none
@[simp] theorem tLen_lst (xs : List D) : tLen (some (.lst xs)) = some xs.length := rfl
@[simp] theorem tLen_dk (xs : List (Key × D)) : tLen (some (.dk xs)) = some xs.length := rfl
@[simp] theorem lenD_oid (n : Nat) : lenD M (.oid n) = tLen M[n]? := by
  show (match M[n]? with
    | some (.lst xs) => some xs.length
    | some (.dk kvs) => some kvs.length
    | _ => none) = _
  cases M[n]? with
  | none => rfl
  | some o => cases o <;> rfl
@[simp] theorem viewL_oidS (n : Nat) : viewL M (.oid n) = tV M[n]? := viewL_get M n
theorem slice_oid (n : Nat) (lo hi : Option Int) : slice M (.oid n) lo hi = (tV M[n]?).map fun xs => .nl (cut xs lo hi) := by
  rw [← viewL_get]; rfl
theorem slice_tup (xs : List D) (lo hi : Option Int) : slice M (.tup xs) lo hi = some (.v (.tup (cut xs lo hi)) M) := rfl
@[simp] theorem eqN_oidS (n k : Nat) (d : D) : eqN M (n + 1) (.oid k) d = tEq M (n + 1) d M[k]? := eqN_oid M n k d
@[simp] theorem eqN_oidS2 (n k : Nat) (xs : List D) : eqN M (n + 1) (.lst xs) (.oid k) = tEq2 M (n + 1) (.lst xs) M[k]? := eqN_oid2 M n k _
def tItm (k : Ik) (n : Nat) (M : Store) : Option Ob → Rs Items
  | some (.lst xs) => match k with
    | .ex => some (.ok ⟨xs, some (n, xs)⟩ M)
    | .rev => some (.ok ⟨xs.reverse, some (n, xs)⟩ M)
    | .enum => some (.ok ⟨xs.zipIdx.map fun p => .tup [.int (p.2 : Int), p.1], some (n, xs)⟩ M)
    | _ => none
  | _ => none
@[simp] theorem tItm_ex (n : Nat) (xs : List D) : tItm .ex n M (some (.lst xs)) = some (.ok ⟨xs, some (n, xs)⟩ M) := rfl
@[simp] theorem tItm_rev (n : Nat) (xs : List D) : tItm .rev n M (some (.lst xs)) = some (.ok ⟨xs.reverse, some (n, xs)⟩ M) := rfl
@[simp] theorem tItm_enum (n : Nat) (xs : List D) : tItm .enum n M (some (.lst xs)) = some (.ok ⟨xs.zipIdx.map fun p => .tup [.int (p.2 : Int), p.1], some (n, xs)⟩ M) := rfl
@[simp] theorem itemsR_oid (n : Nat) : itemsR .ex [.oid n] M = tItm .ex n M M[n]? := by
  unfold itemsR items
  show (match (viewL M (.oid n)).map fun xs => (⟨xs, gdOf (.oid n) xs⟩ : Items) with
    | some it => rok it M
    | none => none) = _
  rw [viewL_get]
  cases M[n]? with
  | none => rfl
  | some o => cases o <;> rfl
@[simp] theorem itemsR_rev_oid (n : Nat) : itemsR .rev [.oid n] M = tItm .rev n M M[n]? := by
  unfold itemsR items
  show (match (viewL M (.oid n)).map fun xs => (⟨xs.reverse, gdOf (.oid n) xs⟩ : Items) with
    | some it => rok it M
    | none => none) = _
  rw [viewL_get]
  cases M[n]? with
  | none => rfl
  | some o => cases o <;> rfl
@[simp] theorem itemsR_enum_oid (n : Nat) : itemsR .enum [.oid n] M = tItm .enum n M M[n]? := by
  unfold itemsR items
  show (match (viewS M (.oid n)).map fun xs => (⟨xs.zipIdx.map fun p => .tup [.int (p.2 : Int), p.1], gdOf (.oid n) xs⟩ : Items) with
    | some it => rok it M
    | none => none) = _
  show (match (viewL M (.oid n)).map fun xs => (⟨xs.zipIdx.map fun p => .tup [.int (p.2 : Int), p.1], gdOf (.oid n) xs⟩ : Items) with
    | some it => rok it M
    | none => none) = _
  rw [viewL_get]
  cases M[n]? with
  | none => rfl
  | some o => cases o <;> rfl
/-- a range with a step -/
theorem itemsR_rng3 {a b : Int} {c : Nat} (hc : 0 < c) (hc2 : c ≤ 1000000) (ha : 0 ≤ a) (ha2 : a ≤ 1000000000) (hb : 0 ≤ b) (hb2 : b ≤ 1000000000) :
    itemsR .rng3 [.int a, .int b, .int (c : Int)] M = some (.ok ⟨rngL a (((b - a + (c - 1)) / c).toNat) c, none⟩ M) := by
  have hs : Builtin.Range.rangeSize a b (c : Int) = (((b - a + (c - 1)) / c).toNat : Int) := by
    unfold Builtin.Range.rangeSize
    rw [if_pos (by omega)]
    by_cases h : a < b
    · rw [if_pos h]
      have e : b - a + ((c : Int) - 1) = (b - a - 1) + c := by omega
      rw [e, Int.add_ediv_of_dvd_right (Int.dvd_refl _), Int.ediv_self (by omega)]
      have : 0 ≤ (b - a - 1) / (c : Int) := Int.ediv_nonneg (by omega) (by omega)
      omega
    · rw [if_neg h]
      have : (b - a + ((c : Int) - 1)) / (c : Int) ≤ 0 := by
        have h1 : (b - a + ((c : Int) - 1)) / (c : Int) < 1 := Int.ediv_lt_of_lt_mul (by omega) (by omega)
        omega
      omega
  have hsz : (((b - a + (c - 1)) / c).toNat : Int) ≤ 2000000000 := by
    have : (b - a + ((c : Int) - 1)) / (c : Int) ≤ 2000000000 := by
      have h1 : (b - a + ((c : Int) - 1)) / (c : Int) < 2000000001 := Int.ediv_lt_of_lt_mul (by omega) (by omega)
      omega
    omega
  unfold itemsR items
  have h1 : (c : Int) ≠ 0 ∧ (c : Int).natAbs < 1073741824 ∧ Builtin.Range.small a b (c : Int) = true := by
    refine ⟨by omega, by omega, ?_⟩
    unfold Builtin.Range.small
    have f : ∀ i : Int, -1 ≤ i → i ≤ 3000000000 → Builtin.Range.rangeFitsLong i = true := fun i h1 h2 => by
      have e : (2 : Int) ^ 63 = 9223372036854775808 := by decide +kernel
      show (decide (-(2 ^ 63) ≤ i) && decide (i < 2 ^ 63)) = true
      rw [e, Bool.and_eq_true, decide_eq_true_eq, decide_eq_true_eq]
      omega
    simp only [Bool.and_eq_true]
    rw [hs]
    refine ⟨⟨⟨⟨f _ (by omega) (by omega), f _ (by omega) (by omega)⟩, f _ (by omega) (by omega)⟩, f _ (by omega) (by omega)⟩, ?_⟩
    rw [if_pos (by omega), f _ (by omega) (by omega), Bool.or_true]
  dsimp only
  rw [if_pos (show okR3 a b (c : Int) = true from okP_of h1), hs]
  rfl
end
/-- a step of a range, by name -/
def stepD (a c j : Nat) : D := .int ((a + c * j : Nat) : Int)
theorem itemsR_rng3n {M : Store} {a c m : Nat} {b : Int} (hc : 0 < c) (hc2 : c ≤ 1000000) (ha2 : a ≤ 1000000000) (hb : 0 ≤ b) (hb2 : b ≤ 1000000000) (hm : ((b - a + (c - 1)) / c).toNat = m) :
    itemsR .rng3 [.int (a : Int), .int b, .int (c : Int)] M = some (.ok ⟨(List.range m).map (stepD a c), none⟩ M) := by
  unfold stepD
  rw [itemsR_rng3 hc hc2 (by omega) (by omega) hb hb2, hm]
  unfold rngL
  congr 3
  refine List.map_congr_left fun j _ => ?_
  congr 1
  rw [Int.natCast_add, Int.natCast_mul, Int.mul_comm]
theorem cut_win {α : Type} (xs : List α) (i k : Nat) : cut xs (some (i : Int)) (some ((i : Int) + (k : Int))) = (xs.drop i).take k := by
  have := cut_mid xs i (i + k)
  rw [Int.natCast_add] at this
  rw [this, Nat.add_sub_cancel_left]
@[simp] theorem pMul_lst {M : Store} (xs : List D) (k : Int) : pMul [.lst xs, .int k] M = if okRep xs.length k = true then some (.nl (List.replicate k.toNat xs).flatten) else none := rfl
@[simp] theorem pAdd_lo {M : Store} (xs : List D) (n : Nat) : pAdd [.lst xs, .oid n] M = match tV M[n]? with
    | some ys => if xs.length + ys.length ≤ line then some (.nl (xs ++ ys)) else none
    | none => none := by
  rw [← viewL_get]
  show (match viewH M (.lst xs), viewH M (.oid n) with
    | some xs, some ys => if xs.length + ys.length ≤ line then some (PO.nl (xs ++ ys)) else none
    | _, _ => none) = _
  rw [viewH_lst, viewH_oid]
  cases viewL M (.oid n) <;> rfl
@[simp] theorem pAdd_ol {M : Store} (xs : List D) (n : Nat) : pAdd [.oid n, .lst xs] M = match tV M[n]? with
    | some ys => if ys.length + xs.length ≤ line then some (.nl (ys ++ xs)) else none
    | none => none := by
  rw [← viewL_get]
  show (match viewH M (.oid n), viewH M (.lst xs) with
    | some xs, some ys => if xs.length + ys.length ≤ line then some (PO.nl (xs ++ ys)) else none
    | _, _ => none) = _
  rw [viewH_lst, viewH_oid]
  cases viewL M (.oid n) <;> rfl
theorem rep_flat (n : Nat) (i : Int) : (List.replicate n [D.int i]).flatten = (List.replicate n i).map D.int := by
  induction n with
  | zero => rfl
  | succ n ih => rw [List.replicate_succ, List.flatten_cons, ih, List.replicate_succ]; rfl
theorem okRep_small {n k : Nat} (h : n ≤ 4000) (h2 : k ≤ 4000) : okRep n (k : Int) = true := okRep_of (by omega) (by omega) (by
  rw [Int.toNat_natCast]
  exact Nat.le_trans (Nat.mul_le_mul h h2) (by decide))
/-! ### comprehensions -/
section
variable {v : Ev} {δ : Sl} {M : Store}
noncomputable def kElt2 (v : Ev) (elt : E) (δ : Sl) (M : Store) : Rs (List D) := bnd (evE v elt δ M) kElt.kOne
@[simp] theorem kElt2_eq (elt : E) : kElt2 v elt δ M = bnd (evE v elt δ M) kElt.kOne := rfl
theorem comp2B_eq (t2 : Tg) (elt : E) (y : D) : comp2B v t2 elt δ y M = bnd (evTg v t2 y (kill δ t2.slots) M) (kElt2 v elt) := rfl
noncomputable def kC3 (v : Ev) (t2 : Tg) (elt : E) (δ : Sl) (it : Items) (M : Store) : Rs (List D) := if it.xs.length ≤ 4096 then compL it.gd (comp2B v t2 elt δ) it.xs M else none
@[simp] theorem kC3_eq (t2 : Tg) (elt : E) (it : Items) : kC3 v t2 elt δ it M = if it.xs.length ≤ 4096 then compL it.gd (comp2B v t2 elt δ) it.xs M else none := rfl
noncomputable def kC2 (v : Ev) (k2 : Ik) (es2 : Es) (t2 : Tg) (elt : E) (δ : Sl) (M : Store) : Rs (List D) := bnd (bnd (evEs v es2 δ M) (kItems k2)) (kC3 v t2 elt δ)
@[simp] theorem kC2_eq (k2 : Ik) (es2 : Es) (t2 : Tg) (elt : E) : kC2 v k2 es2 t2 elt δ M = bnd (bnd (evEs v es2 δ M) (kItems k2)) (kC3 v t2 elt δ) := rfl
theorem comp2A_eq (own : List Nat) (t : Tg) (k2 : Ik) (es2 : Es) (t2 : Tg) (elt : E) (x : D) : comp2A v own t k2 es2 t2 elt δ x M = nox (bnd (evTg v t x (kill δ own) M) (kC2 v k2 es2 t2 elt)) := rfl
end
theorem compL_flat {β : Type} {F : D → Store → Rs (List D)} {M : Store} {g : Option (Nat × List D)} (hg : gdOk g M) (e : β → D) (f : β → List Int) (xs : List β) (h : ∀ x ∈ xs, F (e x) M = some (.ok ((f x).map D.int) M)) : compL g F (xs.map e) M = some (.ok ((xs.flatMap f).map D.int) M) := by
  induction xs with
  | nil => rw [List.map_nil, compL_nil, if_pos hg]; rfl
  | cons x xs ih =>
    rw [List.map_cons, compL_cons, if_pos hg, h x List.mem_cons_self, bnd_ok, ih fun y hy => h y (List.mem_cons_of_mem _ hy)]
    simp
/-- values of any kind -/
theorem compL_mapD {β : Type} {F : D → Store → Rs (List D)} {M : Store} {g : Option (Nat × List D)} (hg : gdOk g M) (e : β → D) (f : β → D) (xs : List β) (h : ∀ x ∈ xs, F (e x) M = some (.ok [f x] M)) : compL g F (xs.map e) M = some (.ok (xs.map f) M) := by
  induction xs with
  | nil => rw [List.map_nil, compL_nil, if_pos hg]; rfl
  | cons x xs ih =>
    rw [List.map_cons, compL_cons, if_pos hg, h x List.mem_cons_self, bnd_ok, ih fun y hy => h y (List.mem_cons_of_mem _ hy)]
    rfl
/-- some of the items -/
theorem compL_filter {β : Type} {F : D → Store → Rs (List D)} {M : Store} {g : Option (Nat × List D)} (hg : gdOk g M) (e : β → D) (p : β → Bool) (f : β → D) (xs : List β) (h : ∀ x ∈ xs, F (e x) M = some (.ok (if p x = true then [f x] else []) M)) : compL g F (xs.map e) M = some (.ok ((xs.filter p).map f) M) := by
  induction xs with
  | nil => rw [List.map_nil, compL_nil, if_pos hg]; rfl
  | cons x xs ih =>
    rw [List.map_cons, compL_cons, if_pos hg, h x List.mem_cons_self, bnd_ok, ih fun y hy => h y (List.mem_cons_of_mem _ hy)]
    by_cases c : p x = true
    · simp [c]
    · simp [c]
/-! ### while -/
theorem whileL_go {kl : List Nat} {c : Sl → Store → Rs Bool} {f : Sl → Store → Option SO} {n : Nat} {δ δ' : Sl} {M M1 M' : Store} (hc : c δ M = some (.ok true M1)) (hf : killN kl (f δ M1) = some (.nx δ' M')) : whileL kl c f (n + 1) δ M = whileL kl c f n δ' M' := by
  obtain ⟨δ'', e1, e2⟩ := killN_nx_of hf
  have e0 : whileL kl c f (n + 1) δ M = bndS δ (c δ M) fun b M1 => if b = true then match f δ M1 with
      | some (.nx δ' M') => whileL kl c f n (kill δ' kl) M'
      | some (.ct δ' M') => whileL kl c f n (kill δ' kl) M'
      | some (.bk δ' M') => some (.nx (kill δ' kl) M')
      | r => r
    else some (.nx (kill δ kl) M1) := rfl
  rw [e0, hc, bndS_ok, if_pos rfl]
  rcases e1 with e1 | e1 <;> rw [e1] <;> dsimp only <;> rw [e2]
theorem whileL_end {kl : List Nat} {c : Sl → Store → Rs Bool} {f : Sl → Store → Option SO} {n : Nat} {δ : Sl} {M M1 : Store} (hc : c δ M = some (.ok false M1)) : whileL kl c f (n + 1) δ M = some (.nx (kill δ kl) M1) := by
  have e0 : whileL kl c f (n + 1) δ M = bndS δ (c δ M) fun b M1 => if b = true then match f δ M1 with
      | some (.nx δ' M') => whileL kl c f n (kill δ' kl) M'
      | some (.ct δ' M') => whileL kl c f n (kill δ' kl) M'
      | some (.bk δ' M') => some (.nx (kill δ' kl) M')
      | r => r
    else some (.nx (kill δ kl) M1) := rfl
  rw [e0, hc, bndS_ok, if_neg Bool.false_ne_true]
/-! ### bits -/
@[simp] theorem bitAnd1 (x : Int) : Builtin.bitAnd x 1 = x % 2 := bitAnd_m1 x
theorem xor_bits {a b : Int} (ha : a = 0 ∨ a = 1) (hb : b = 0 ∨ b = 1) : Builtin.bitXor a b = (a + b) % 2 := by
  rcases ha with rfl | rfl <;> rcases hb with rfl | rfl <;> decide +kernel
end Mo
/-! Mo23: bits and numbers, in plain Lean. -/
namespace Mo

def isBit (b : Int) : Bool := b == 0 || b == 1
theorem bit_cases {b : Int} (h : isBit b = true) : b = 0 ∨ b = 1 := by simpa [isBit] using h
theorem isBit_mod (n : Int) : isBit (n % 2) = true := by
  have e : n % 2 = 0 ∨ n % 2 = 1 := by omega
  rcases e with e | e <;> rw [e] <;> rfl
theorem pow2_mono {i j : Nat} (h : i ≤ j) : (2 : Int) ^ i ≤ 2 ^ j := by
  have := Nat.pow_le_pow_right (n := 2) (by decide) h
  exact_mod_cast this
/-- the number of bits, the lowest first -/
def nLow : List Int → Int
  | [] => 0
  | b :: r => b + 2 * nLow r
/-- the bits of a number, the lowest first -/
def bLow (n : Int) : Nat → List Int
  | 0 => []
  | k + 1 => n % 2 :: bLow (n / 2) k
/-- the number of bits, the highest first -/
def nHigh (l : List Int) : Int := l.foldl (fun a b => 2 * a + b) 0
def bHigh (n : Int) (k : Nat) : List Int := (bLow n k).reverse
theorem bLow_len : ∀ (n : Int) (k : Nat), (bLow n k).length = k
  | _, 0 => rfl
  | n, k + 1 => by rw [bLow, List.length_cons, bLow_len]
theorem bLow_bits : ∀ (n : Int) (k : Nat), (bLow n k).all isBit = true
  | _, 0 => rfl
  | n, k + 1 => by rw [bLow, List.all_cons, isBit_mod, bLow_bits]; rfl
theorem div_pow (n : Int) (j : Nat) : n / 2 / 2 ^ j = n / 2 ^ (j + 1) := by
  rw [Int.ediv_ediv_of_nonneg (by decide), Int.pow_succ, Int.mul_comm]
theorem bLow_get : ∀ (n : Int) (k j : Nat), j < k → (bLow n k)[j]? = some (n / 2 ^ j % 2)
  | _, 0, _, h => absurd h (Nat.not_lt_zero _)
  | n, k + 1, 0, _ => by simp [bLow]
  | n, k + 1, j + 1, h => by
    rw [bLow, List.getElem?_cons_succ, bLow_get (n / 2) k j (by omega), div_pow]
theorem bLow_map (n : Int) (k : Nat) : (List.range k).map (fun j : Nat => n / 2 ^ j % 2) = bLow n k := by
  refine List.ext_getElem? fun i => ?_
  by_cases h : i < k
  · rw [bLow_get n k i h, List.getElem?_map, List.getElem?_range h]; rfl
  · rw [List.getElem?_eq_none (by simp; omega), List.getElem?_eq_none (by rw [bLow_len]; omega)]
theorem bHigh_get (n : Int) (k j : Nat) (h : j < k) : (bHigh n k)[j]? = some (n / 2 ^ (k - 1 - j) % 2) := by
  unfold bHigh
  rw [List.getElem?_reverse (by rw [bLow_len]; exact h), bLow_len, bLow_get n k _ (by omega)]
theorem bHigh_len (n : Int) (k : Nat) : (bHigh n k).length = k := by unfold bHigh; rw [List.length_reverse, bLow_len]
theorem bHigh_bits (n : Int) (k : Nat) : (bHigh n k).all isBit = true := by unfold bHigh; rw [List.all_reverse]; exact bLow_bits n k
theorem bHigh_map (n : Int) (k : Nat) : (List.range k).map (fun j : Nat => n / 2 ^ (k - 1 - j) % 2) = bHigh n k := by
  refine List.ext_getElem? fun i => ?_
  by_cases h : i < k
  · rw [bHigh_get n k i h, List.getElem?_map, List.getElem?_range h]; rfl
  · rw [List.getElem?_eq_none (by simp; omega), List.getElem?_eq_none (by rw [bHigh_len]; omega)]
theorem nLow_bLow : ∀ (n : Int) (k : Nat), 0 ≤ n → n < 2 ^ k → nLow (bLow n k) = n
  | n, 0, h, h2 => by
    have : n = 0 := by simp at h2; omega
    subst this; rfl
  | n, k + 1, h, h2 => by
    rw [Int.pow_succ] at h2
    rw [bLow, nLow, nLow_bLow (n / 2) k (by omega) (by omega)]
    omega
theorem bLow_nLow : ∀ l : List Int, l.all isBit = true → bLow (nLow l) l.length = l
  | [], _ => rfl
  | b :: r, h => by
    rw [List.all_cons, Bool.and_eq_true] at h
    have hb := bit_cases h.1
    rw [List.length_cons, nLow, bLow]
    have e1 : (b + 2 * nLow r) % 2 = b := by omega
    have e2 : (b + 2 * nLow r) / 2 = nLow r := by omega
    rw [e1, e2, bLow_nLow r h.2]
theorem nLow_bnd : ∀ l : List Int, l.all isBit = true → 0 ≤ nLow l ∧ nLow l < 2 ^ l.length
  | [], _ => by simp [nLow]
  | b :: r, h => by
    rw [List.all_cons, Bool.and_eq_true] at h
    have hb := bit_cases h.1
    have ih := nLow_bnd r h.2
    rw [List.length_cons, nLow, Int.pow_succ]
    omega
theorem nHigh_low (l : List Int) : nHigh l = nLow l.reverse := by
  have key : ∀ (l : List Int) (a : Int) (r : List Int), nLow r = a → l.foldl (fun a b => 2 * a + b) a = nLow (l.reverse ++ r) := by
    intro l
    induction l with
    | nil => intro a r h; simpa using h.symm
    | cons b l ih =>
      intro a r h
      rw [List.foldl_cons, ih (2 * a + b) (b :: r) (by rw [nLow, h]; omega), List.reverse_cons, List.append_assoc]
      rfl
  have := key l 0 [] rfl
  rw [List.append_nil] at this
  exact this
theorem nHigh_snoc (l : List Int) (b : Int) : nHigh (l ++ [b]) = 2 * nHigh l + b := by
  unfold nHigh
  rw [List.foldl_append]; rfl
theorem nHigh_bHigh (n : Int) (k : Nat) (h : 0 ≤ n) (h2 : n < 2 ^ k) : nHigh (bHigh n k) = n := by
  rw [nHigh_low]
  unfold bHigh
  rw [List.reverse_reverse, nLow_bLow n k h h2]
theorem nHigh_bnd (l : List Int) (h : l.all isBit = true) : 0 ≤ nHigh l ∧ nHigh l < 2 ^ l.length := by
  rw [nHigh_low]
  have := nLow_bnd l.reverse (by rw [List.all_reverse]; exact h)
  rwa [List.length_reverse] at this
/-! ### pieces -/
def chunks (k m : Nat) (B : List Int) : List (List Int) := (List.range m).map fun j => (B.drop (k * j)).take k
theorem chunks_flat (k : Nat) : ∀ (m : Nat) (B : List Int), B.length = k * m → (chunks k m B).flatten = B
  | 0, B, h => by
    have : B = [] := List.eq_nil_of_length_eq_zero (by simpa using h)
    subst this; rfl
  | m + 1, B, h => by
    have h' : B.length = k * m + k := by rw [h, Nat.mul_succ]
    have e : chunks k (m + 1) B = B.take k :: chunks k m (B.drop k) := by
      unfold chunks
      rw [List.range_succ_eq_map, List.map_cons, List.map_map]
      congr 1
      refine List.map_congr_left fun j _ => ?_
      show (B.drop (k * (j + 1))).take k = ((B.drop k).drop (k * j)).take k
      rw [List.drop_drop, Nat.mul_succ, Nat.add_comm]
    rw [e, List.flatten_cons, chunks_flat k m (B.drop k) (by rw [List.length_drop]; omega), List.take_append_drop]
theorem chunks_mem {k m : Nat} {B c : List Int} (h : B.length = k * m) (hc : c ∈ chunks k m B) : c.length = k ∧ ∀ b ∈ c, b ∈ B := by
  obtain ⟨j, hj, rfl⟩ := List.mem_map.mp hc
  have hj := List.mem_range.mp hj
  refine ⟨?_, fun b hb => List.mem_of_mem_drop (List.mem_of_mem_take hb)⟩
  rw [List.length_take, List.length_drop, h]
  have : k * j + k ≤ k * m := by rw [← Nat.mul_succ]; exact Nat.mul_le_mul_left k hj
  omega
theorem chunks_len (k m : Nat) (B : List Int) : (chunks k m B).length = m := by simp [chunks]
theorem flatMap_len {f : Int → List Int} {k : Nat} (hf : ∀ x, (f x).length = k) : ∀ xs : List Int, (xs.flatMap f).length = k * xs.length
  | [] => by simp
  | x :: xs => by rw [List.flatMap_cons, List.length_append, hf, flatMap_len hf xs, List.length_cons, Nat.mul_succ]; omega
theorem flatMap_block {f : Int → List Int} {k : Nat} (hf : ∀ x, (f x).length = k) : ∀ (xs r : List Int) (j : Nat) (x : Int), xs[j]? = some x → ((xs.flatMap f ++ r).drop (k * j)).take k = f x
  | [], _, _, _, h => by simp at h
  | y :: xs, r, 0, x, h => by
    simp at h
    subst h
    rw [List.flatMap_cons, Nat.mul_zero, List.drop_zero, List.append_assoc, List.take_append_of_le_length (by rw [hf]; exact Nat.le_refl _), List.take_of_length_le (by rw [hf]; exact Nat.le_refl _)]
  | y :: xs, r, j + 1, x, h => by
    rw [List.flatMap_cons, List.append_assoc, Nat.mul_succ, Nat.add_comm, ← List.drop_drop, List.drop_append_of_le_length (by rw [hf]; exact Nat.le_refl _), List.drop_of_length_le (l := f y) (by rw [hf]; exact Nat.le_refl _), List.nil_append]
    exact flatMap_block hf xs r j x (by simpa using h)
theorem all_memI {p : Int → Bool} {l : List Int} (h : l.all p = true) {b : Int} (hb : b ∈ l) : p b = true := List.all_eq_true.mp h b hb
theorem all_flatMap {p : Int → Bool} {f : Int → List Int} (hf : ∀ x, (f x).all p = true) : ∀ xs : List Int, (xs.flatMap f).all p = true
  | [] => rfl
  | x :: xs => by rw [List.flatMap_cons, List.all_append, hf, all_flatMap hf xs]; rfl
end Mo
/-! Mo24: tuples of the written part; rows of ints of any kind; division by a row of bits, in plain Lean. -/
namespace Mo
open PySem PySem.Spec L2
open PyProof.Rows hiding St

theorem gb_tup {K : PySem.W.Frag} {mg : PySem.Str → Option Value} {x : PySem.Str} {ga : Addr} {o : Obj} {its : Array Value} {n : Nat} {ns : List Int} (gb : mg x = some (.ref ga)) (gl : K.lookup ga = some o) (hc : o.cls = .type "tuple") (hd : o.data = .seq its n)
    (gv : Vals (ns.map V.int) its.toList) (hl : ns.length ≤ 1000) : GbKn K mg x (.ktup (ns.map D.int)) := by
  refine ⟨_, V.ref ga, gb, rfl, fun W H => ⟨ga, ns.map V.int, rfl, ⟨o, its, n, gl, hc, hd, ?_, gv⟩, Reps.ints ns⟩⟩
  have := Vals.length gv
  rw [List.length_map] at this
  have e : its.size = its.toList.length := by simp
  rw [e, ← this, sizeLine_eq]
  omega
theorem gb_lst {K : PySem.W.Frag} {mg : PySem.Str → Option Value} {x : PySem.Str} {ga : Addr} {o : Obj} {its : Array Value} {n : Nat} {ns : List Int} (gb : mg x = some (.ref ga)) (gl : K.lookup ga = some o) (hc : o.cls = .type "list") (hdd : o.dict = none) (hd : o.data = .seq its n)
    (gv : Vals (ns.map V.int) its.toList) (hl : ns.length ≤ 1000) : GbKn K mg x (.scr (ns.map D.int)) := by
  refine ⟨_, V.ref ga, gb, rfl, fun W H => ⟨ga, ns.map V.int, rfl, .inr ⟨o, its, n, gl, hc, hdd, hd, ?_, gv⟩, Reps.ints ns⟩⟩
  have := Vals.length gv
  rw [List.length_map] at this
  have e : its.size = its.toList.length := by simp
  rw [e, ← this, sizeLine_eq]
  omega
/-- the ints of a list or a tuple -/
def seqM (M : Store) : D → Option (List Int)
  | .lst xs => intsOf xs
  | .tup xs => intsOf xs
  | .ktup xs => intsOf xs
  | .oid n => match M[n]? with
    | some (.lst xs) => intsOf xs
    | _ => none
  | _ => none
@[simp] theorem seqM_lst (M : Store) (ns : List Int) : seqM M (.lst (ns.map D.int)) = some ns := intsOf_map ns
@[simp] theorem seqM_tup (M : Store) (ns : List Int) : seqM M (.tup (ns.map D.int)) = some ns := intsOf_map ns
@[simp] theorem seqM_ktup (M : Store) (ns : List Int) : seqM M (.ktup (ns.map D.int)) = some ns := intsOf_map ns
theorem seqM_oid {M : Store} {n : Nat} {ns : List Int} (h : M[n]? = some (.lst (ns.map D.int))) : seqM M (.oid n) = some ns := by
  show (match M[n]? with
      | some (.lst xs) => intsOf xs
      | _ => none) = some ns
  rw [h]
  exact intsOf_map ns
structure SeqD (M : Store) (d : D) (ns : List Int) : Prop where
  ex : isExr d = false
  vs : viewS M d = some (ns.map D.int)
  len : lenD M d = some ns.length
  ix : ∀ i, pIx [d, .int i] M = ixL (ns.map D.int) i M
  lst : pList [d] M = some (.nl (ns.map D.int))
  it : itemsR .ex [d] M = some (.ok ⟨ns.map D.int, gdOf d (ns.map D.int)⟩ M)
theorem seqM_ok {d : D} {ns : List Int} {M : Store} (h : seqM M d = some ns) : SeqD M d ns := by
  cases d with
  | lst xs =>
    obtain rfl := intsOf_eq (show intsOf xs = some ns from h)
    exact ⟨rfl, rfl, by simp, fun _ => rfl, rfl, rfl⟩
  | tup xs =>
    obtain rfl := intsOf_eq (show intsOf xs = some ns from h)
    exact ⟨rfl, rfl, by simp, fun _ => rfl, rfl, rfl⟩
  | ktup xs =>
    obtain rfl := intsOf_eq (show intsOf xs = some ns from h)
    exact ⟨rfl, rfl, by simp, fun _ => rfl, rfl, rfl⟩
  | oid n =>
    have h' : (match M[n]? with
      | some (.lst xs) => intsOf xs
      | _ => none) = some ns := h
    split at h'
    · rename_i xs e
      obtain rfl := intsOf_eq h'
      refine ⟨rfl, by simp [e], by simp [e], fun i => by simp [e], by simp [e], by simp [e, gdOf]⟩
    · cases h'
  | _ => cases h
theorem seqM_up {d : D} {ns : List Int} {M : Store} (N : Store) (h : seqM M d = some ns) : seqM (M ++ N) d = some ns := by
  cases d with
  | oid n =>
    have h' : (match M[n]? with
      | some (.lst xs) => intsOf xs
      | _ => none) = some ns := h
    show (match (M ++ N)[n]? with
      | some (.lst xs) => intsOf xs
      | _ => none) = some ns
    have hl : n < M.length := by
      by_cases c : n < M.length
      · exact c
      · rw [List.getElem?_eq_none (by omega)] at h'; cases h'
    rw [List.getElem?_append_left hl]
    exact h'
  | _ => exact h
@[simp] theorem isTy_tuple_ktup {M : Store} (xs : List D) : isTy .tuple M (.ktup xs) = some true := rfl
@[simp] theorem isTy_bool_ktup {M : Store} (xs : List D) : isTy .bool M (.ktup xs) = some false := rfl
@[simp] theorem isTy_bool_sy {M : Store} (i : Nat) : isTy .bool M (.sy i) = some false := rfl
theorem ixL_set {xs : List D} {k : Nat} {d : D} (h : k < xs.length) : ixN xs.length (k : Int) = some k := ixN_nat h

/-! ### sums of bits -/
def x2 (a b : Int) : Int := (a + b) % 2
theorem xor_x2 {a b : Int} (ha : isBit a = true) (hb : isBit b = true) : Builtin.bitXor a b = x2 a b := xor_bits (bit_cases ha) (bit_cases hb)
theorem isBit_x2 (a b : Int) : isBit (x2 a b) = true := isBit_mod _
theorem x2_0 {a : Int} (ha : isBit a = true) : x2 a 0 = a := by rcases bit_cases ha with rfl | rfl <;> rfl
theorem x2_0l {a : Int} (ha : isBit a = true) : x2 0 a = a := by rcases bit_cases ha with rfl | rfl <;> rfl
theorem x2_self {a : Int} : x2 a a = 0 := by unfold x2; omega
/-- the second row taken from the beginning of the first -/
def xorl : List Int → List Int → List Int
  | a :: l, d :: ds => x2 a d :: xorl l ds
  | l, _ => l
theorem xorl_len : ∀ l ds : List Int, (xorl l ds).length = l.length
  | [], _ => by simp [xorl]
  | a :: l, [] => by simp [xorl]
  | a :: l, d :: ds => by simp [xorl, xorl_len l ds]
theorem xorl_bits : ∀ l ds : List Int, l.all isBit = true → (xorl l ds).all isBit = true
  | [], _, _ => by simp [xorl]
  | a :: l, [], h => by simpa [xorl] using h
  | a :: l, d :: ds, h => by
    rw [List.all_cons, Bool.and_eq_true] at h
    rw [xorl, List.all_cons, isBit_x2, xorl_bits l ds h.2]; rfl
def dstep (ds : List Int) (h : Int) (t : List Int) : List Int := if h = 1 then xorl t ds else t
theorem dstep_len (ds : List Int) (h : Int) (t : List Int) : (dstep ds h t).length = t.length := by
  unfold dstep; split
  · exact xorl_len _ _
  · rfl
theorem dstep_bits (ds : List Int) (h : Int) (t : List Int) (ht : t.all isBit = true) : (dstep ds h t).all isBit = true := by
  unfold dstep; split
  · exact xorl_bits _ _ ht
  · exact ht
/-- n steps of the division: ds is the divisor behind its first bit -/
def divn (ds : List Int) : Nat → List Int → List Int
  | n + 1, h :: t => divn ds n (dstep ds h t)
  | _, l => l
theorem divn_snoc (ds : List Int) : ∀ (n : Nat) (l t : List Int) (h : Int), divn ds n l = h :: t → divn ds (n + 1) l = dstep ds h t
  | 0, l, t, h, e => by
    have e : l = h :: t := by simpa [divn] using e
    subst e; simp [divn]
  | n + 1, [], t, h, e => by simp [divn] at e
  | n + 1, x :: l, t, h, e => by
    rw [divn] at e
    rw [divn]
    exact divn_snoc ds n _ t h e
theorem xorl_get : ∀ (l ds : List Int) (i : Nat), (xorl l (ds.take i))[i]? = l[i]?
  | [], _, _ => by simp [xorl]
  | a :: l, [], i => by simp [xorl]
  | a :: l, d :: ds, 0 => by simp [xorl]
  | a :: l, d :: ds, i + 1 => by simp [xorl, xorl_get l ds i]
theorem xorl_set : ∀ (l ds : List Int) (i : Nat) (b d : Int), l[i]? = some b → ds[i]? = some d → (xorl l (ds.take i)).set i (x2 b d) = xorl l (ds.take (i + 1))
  | [], _, _, _, _, h, _ => by simp at h
  | _ :: _, [], _, _, _, _, h => by simp at h
  | a :: l, e :: ds, 0, b, d, h1, h2 => by
    simp at h1 h2
    subst h1 h2
    cases l <;> cases ds <;> simp [xorl]
  | a :: l, e :: ds, i + 1, b, d, h1, h2 => by
    simp only [List.take_succ_cons, xorl, List.set_cons_succ]
    rw [xorl_set l ds i b d (by simpa using h1) (by simpa using h2)]
def zs (n : Nat) : List Int := List.replicate n 0
theorem zs_bits (n : Nat) : (zs n).all isBit = true := List.all_eq_true.mpr fun b hb => by
  rw [(List.mem_replicate.mp hb).2]; rfl
theorem zs_len (n : Nat) : (zs n).length = n := List.length_replicate
/-- the remainder: as many bits as ds has -/
def rem (ds l : List Int) : List Int := if l.length < ds.length then zs (ds.length - l.length) ++ l else divn ds (l.length - ds.length) l
theorem divn_len (ds : List Int) : ∀ (n : Nat) (l : List Int), n ≤ l.length → (divn ds n l).length = l.length - n
  | 0, l, _ => by simp [divn]
  | n + 1, [], h => by simp at h
  | n + 1, x :: t, h => by
    rw [divn, divn_len ds n _ (by rw [dstep_len]; simpa using h), dstep_len, List.length_cons]
    omega
theorem divn_bits (ds : List Int) : ∀ (n : Nat) (l : List Int), l.all isBit = true → (divn ds n l).all isBit = true
  | 0, l, h => by simpa [divn] using h
  | n + 1, [], h => by simp [divn]
  | n + 1, x :: t, h => by
    rw [List.all_cons, Bool.and_eq_true] at h
    rw [divn]
    exact divn_bits ds n _ (dstep_bits _ _ _ h.2)
theorem rem_len (ds l : List Int) : (rem ds l).length = ds.length := by
  unfold rem; split
  · rw [List.length_append, zs_len]; omega
  · rw [divn_len ds _ _ (by omega)]; omega
theorem rem_bits (ds l : List Int) (h : l.all isBit = true) : (rem ds l).all isBit = true := by
  unfold rem; split
  · rw [List.all_append, zs_bits, h]; rfl
  · exact divn_bits _ _ _ h
/-- linear -/
theorem xorl_lin : ∀ (l m ds : List Int), l.length = m.length → List.zipWith x2 (xorl l ds) m = xorl (List.zipWith x2 l m) ds
  | [], [], _, _ => by simp [xorl]
  | a :: l, b :: m, [], _ => by simp [xorl]
  | a :: l, b :: m, d :: ds, h => by
    simp only [xorl, List.zipWith_cons_cons]
    rw [xorl_lin l m ds (by simpa using h)]
    congr 1
    unfold x2; omega
  | [], _ :: _, _, h => by cases h
  | _ :: _, [], _, h => by cases h
theorem x2_comm (a b : Int) : x2 a b = x2 b a := by unfold x2; rw [Int.add_comm]
theorem zip_comm : ∀ l m : List Int, List.zipWith x2 l m = List.zipWith x2 m l
  | [], _ => by simp
  | _ :: _, [] => by simp
  | a :: l, b :: m => by rw [List.zipWith_cons_cons, List.zipWith_cons_cons, x2_comm, zip_comm l m]
theorem xorl_twice : ∀ (l ds : List Int), l.all isBit = true → xorl (xorl l ds) ds = l
  | [], _, _ => by simp [xorl]
  | a :: l, [], _ => by simp [xorl]
  | a :: l, d :: ds, h => by
    rw [List.all_cons, Bool.and_eq_true] at h
    simp only [xorl]
    rw [xorl_twice l ds h.2]
    have := bit_cases h.1
    congr 1
    unfold x2; omega
theorem zip_len (l m : List Int) (h : l.length = m.length) : (List.zipWith x2 l m).length = l.length := by rw [List.length_zipWith, h, Nat.min_self]
theorem zip_bits : ∀ fs gs : List Int, (List.zipWith x2 fs gs).all isBit = true
  | [], _ => by simp
  | _ :: _, [] => by simp
  | f :: fs, g :: gs => by rw [List.zipWith_cons_cons, List.all_cons, zip_bits fs gs, isBit_x2]; rfl
theorem dstep_lin (ds : List Int) {a b : Int} {l m : List Int} (ha : isBit a = true) (hb : isBit b = true) (h : l.length = m.length) : List.zipWith x2 (dstep ds a l) (dstep ds b m) = dstep ds (x2 a b) (List.zipWith x2 l m) := by
  rcases bit_cases ha with rfl | rfl <;> rcases bit_cases hb with rfl | rfl
  · simp [dstep, x2]
  · simp only [dstep, x2]
    simp
    rw [zip_comm, xorl_lin m l ds h.symm, zip_comm]
  · simp only [dstep, x2]
    simp
    exact xorl_lin l m ds h
  · simp only [dstep, x2]
    simp
    rw [xorl_lin l _ ds (by rw [xorl_len]; exact h), zip_comm, xorl_lin m l ds h.symm, xorl_twice _ _ (zip_bits _ _), zip_comm]
theorem divn_lin (ds : List Int) : ∀ (n : Nat) (l m : List Int), l.all isBit = true → m.all isBit = true → l.length = m.length → List.zipWith x2 (divn ds n l) (divn ds n m) = divn ds n (List.zipWith x2 l m)
  | 0, l, m, _, _, _ => by simp [divn]
  | n + 1, [], [], _, _, _ => by simp [divn]
  | n + 1, [], _ :: _, _, _, h => by cases h
  | n + 1, _ :: _, [], _, _, h => by cases h
  | n + 1, a :: l, b :: m, h1, h2, h => by
    rw [List.all_cons, Bool.and_eq_true] at h1 h2
    have hl : l.length = m.length := by simpa using h
    rw [divn, divn, List.zipWith_cons_cons, divn, divn_lin ds n _ _ (dstep_bits _ _ _ h1.2) (dstep_bits _ _ _ h2.2) (by rw [dstep_len, dstep_len, hl]), dstep_lin ds h1.1 h2.1 hl]
theorem zip_zs : ∀ n : Nat, List.zipWith x2 (zs n) (zs n) = zs n
  | 0 => rfl
  | n + 1 => by
    show x2 0 0 :: List.zipWith x2 (zs n) (zs n) = _
    rw [zip_zs n]; rfl
theorem rem_lin (ds l m : List Int) (h1 : l.all isBit = true) (h2 : m.all isBit = true) (h : l.length = m.length) : List.zipWith x2 (rem ds l) (rem ds m) = rem ds (List.zipWith x2 l m) := by
  have hz := zip_len l m h
  unfold rem
  rw [hz, ← h]
  by_cases c : l.length < ds.length
  · rw [if_pos c, if_pos c, if_pos c, List.zipWith_append rfl, zip_zs]
  · rw [if_neg c, if_neg c, if_neg c]
    exact divn_lin ds _ l m h1 h2 h
theorem dstep_0 (ds t : List Int) : dstep ds 0 t = t := rfl
theorem divn_zs (ds : List Int) : ∀ (k n : Nat) (l : List Int), divn ds (k + n) (zs k ++ l) = divn ds n l
  | 0, n, l => by rw [Nat.zero_add]; rfl
  | k + 1, n, l => by
    rw [show k + 1 + n = (k + n) + 1 by omega]
    show divn ds (k + n) (dstep ds 0 (zs k ++ l)) = _
    rw [dstep_0]
    exact divn_zs ds k n l
theorem zs_app (a b : Nat) : zs a ++ zs b = zs (a + b) := List.replicate_append_replicate
/-- leading zeros -/
theorem rem_zs (ds : List Int) (k : Nat) (l : List Int) : rem ds (zs k ++ l) = rem ds l := by
  unfold rem
  rw [List.length_append, zs_len]
  by_cases c : l.length < ds.length
  · rw [if_pos c]
    by_cases c2 : k + l.length < ds.length
    · rw [if_pos c2, ← List.append_assoc, zs_app]
      congr 2
      omega
    · rw [if_neg c2]
      have e : zs k = zs (k + l.length - ds.length) ++ zs (ds.length - l.length) := by rw [zs_app]; congr 1; omega
      rw [e, List.append_assoc]
      exact divn_zs ds _ 0 _
  · rw [if_neg c, if_neg (by omega), show k + l.length - ds.length = k + (l.length - ds.length) by omega]
    exact divn_zs ds k _ l
theorem xorl_self : ∀ (ds r : List Int), xorl (ds ++ r) ds = zs ds.length ++ r
  | [], r => by cases r <;> rfl
  | d :: ds, r => by
    show x2 d d :: xorl (ds ++ r) ds = _
    rw [x2_self, xorl_self ds r]; rfl
/-- the divisor itself, shifted -/
theorem rem_shift (ds : List Int) (a b : Nat) : rem ds (zs a ++ (1 :: ds ++ zs b)) = zs ds.length := by
  rw [rem_zs]
  unfold rem
  rw [if_neg (by simp; omega)]
  have e : (1 :: ds ++ zs b).length - ds.length = (b + 1) := by simp [zs_len]; omega
  rw [e]
  show divn ds b (dstep ds 1 (ds ++ zs b)) = _
  have e2 : dstep ds 1 (ds ++ zs b) = zs b ++ zs ds.length := by
    show xorl (ds ++ zs b) ds = _
    rw [xorl_self, zs_app, zs_app, Nat.add_comm]
  rw [e2]
  exact divn_zs ds b 0 _
/-- bit by bit: the rest is doubled, the bit added, the divisor taken away -/
def reg (ds : List Int) : List Int → List Int → List Int
  | r, [] => r
  | r, b :: bs => reg ds (dstep ds (r.headD 0) (r.tail ++ [b])) bs
theorem reg_div (ds : List Int) : ∀ (bs r : List Int), r.length = ds.length → 0 < ds.length → reg ds r bs = divn ds bs.length (r ++ bs)
  | [], r, h, _ => by simp [reg, divn]
  | b :: bs, [], h, h0 => by simp at h; omega
  | b :: bs, x :: r, h, h0 => by
    rw [reg, reg_div ds bs _ (by rw [dstep_len]; simpa using h) h0, List.length_cons]
    show _ = divn ds bs.length (dstep ds x (r ++ b :: bs))
    congr 1
    show dstep ds x (r ++ [b]) ++ bs = _
    rw [show r ++ b :: bs = (r ++ [b]) ++ bs by simp]
    have hl : ds.length = (r ++ [b]).length := by simp at h ⊢; omega
    unfold dstep
    split
    · have key : ∀ (l ds r : List Int), ds.length = l.length → xorl l ds ++ r = xorl (l ++ r) ds := by
        intro l
        induction l with
        | nil =>
          intro ds r h
          have : ds = [] := List.eq_nil_of_length_eq_zero h
          subst this
          cases r <;> rfl
        | cons a l ih =>
          intro ds r h
          cases ds with
          | nil => cases h
          | cons d ds => simp only [xorl, List.cons_append]; rw [ih ds r (by simpa using h)]
      exact key _ _ _ hl
    · rfl
theorem reg_rem (ds bs : List Int) (h0 : 0 < ds.length) : reg ds (zs ds.length) bs = rem ds bs := by
  rw [reg_div ds bs _ (zs_len _) h0, ← rem_zs ds ds.length bs]
  unfold rem
  rw [List.length_append, zs_len, if_neg (by omega), Nat.add_sub_cancel_left]
end Mo
/-! Mo25: bounds of a longer store; more of sums of rows. -/
namespace Mo
open PySem PySem.Spec L2
open PyProof.Rows hiding St

mutual
theorem D.bnd_mono {n m : Nat} (h : n ≤ m) : ∀ d : D, D.bnd n d = true → D.bnd m d = true
  | .oid k, b => by
    have b' : k < n := of_decide_eq_true b
    exact decide_eq_true (Nat.lt_of_lt_of_le b' h)
  | .tup xs, b => Ds.bnd_mono h xs b
  | .lst xs, b => Ds.bnd_mono h xs b
  | .scr xs, b => Ds.bnd_mono h xs b
  | .ktup xs, b => Ds.bnd_mono h xs b
  | .non, _ => rfl
  | .bl _, _ => rfl
  | .int _, _ => rfl
  | .str _, _ => rfl
  | .sy _, _ => rfl
  | .exr, _ => rfl
theorem Ds.bnd_mono {n m : Nat} (h : n ≤ m) : ∀ ds : List D, Ds.bnd n ds = true → Ds.bnd m ds = true
  | [], _ => rfl
  | d :: ds, b => by
    have b' : (D.bnd n d && Ds.bnd n ds) = true := b
    rw [Bool.and_eq_true] at b'
    show (D.bnd m d && Ds.bnd m ds) = true
    rw [D.bnd_mono h d b'.1, Ds.bnd_mono h ds b'.2]; rfl
end
theorem Ob.bnd_mono {n m : Nat} (h : n ≤ m) : ∀ o : Ob, Ob.bnd n o = true → Ob.bnd m o = true
  | .dead, _ => rfl
  | .lst xs, b => Ds.bnd_mono h xs b
  | .ins _ fs, b => List.all_eq_true.mpr fun p hp => D.bnd_mono h _ (List.all_eq_true.mp b p hp)
  | .dk fs, b => List.all_eq_true.mpr fun p hp => D.bnd_mono h _ (List.all_eq_true.mp b p hp)
  | .dt fs, b => List.all_eq_true.mpr fun p hp => D.bnd_mono h _ (List.all_eq_true.mp b p hp)
@[simp] theorem bnd_doid (n k : Nat) : D.bnd n (.oid k) = decide (k < n) := rfl
@[simp] theorem bnd_app (n : Nat) : ∀ xs ys : List D, Ds.bnd n (xs ++ ys) = (Ds.bnd n xs && Ds.bnd n ys)
  | [], ys => by simp
  | x :: xs, ys => by rw [List.cons_append, bnd_cons, bnd_app n xs ys, bnd_cons, Bool.and_assoc]
@[simp] theorem bnd_rep (n k : Nat) (i : Int) : Ds.bnd n (List.replicate k (D.int i)) = true := by
  have := bnd_ints n (List.replicate k i)
  rwa [List.map_replicate] at this
@[simp] theorem obnd_lst (n : Nat) (xs : List D) : Ob.bnd n (.lst xs) = Ds.bnd n xs := rfl
@[simp] theorem obnd_dead (n : Nat) : Ob.bnd n .dead = true := rfl
theorem stb_app {M N : Store} (hM : StB M) (h : ∀ o ∈ N, Ob.bnd (M.length + N.length) o = true) : StB (M ++ N) := fun x hx => by
  rw [List.length_append]
  rcases List.mem_append.mp hx with hx | hx
  · exact Ob.bnd_mono (Nat.le_add_right _ _) x (hM x hx)
  · exact h x hx
theorem stb_add {M : Store} {o : Ob} (hM : StB M) (h : Ob.bnd (M.length + 1) o = true) : StB (M ++ [o]) := stb_app hM fun x hx => by
  rw [List.mem_singleton] at hx
  subst hx
  exact h
theorem stb_set {M : Store} {o : Ob} (n : Nat) (hM : StB M) (h : Ob.bnd M.length o = true) : StB (M.set n o) := fun x hx => by
  rw [List.length_set]
  rcases List.mem_or_eq_of_mem_set hx with hx | hx
  · exact hM x hx
  · subst hx; exact h
section
variable {M : Store}
@[simp] theorem ixL_0 (a : D) (l : List D) : ixL (a :: l) 0 M = some (.v a M) := ixL_nat (k := 0) M rfl
@[simp] theorem ixL_1 (a b : D) (l : List D) : ixL (a :: b :: l) 1 M = some (.v b M) := ixL_nat (k := 1) M rfl
@[simp] theorem ixL_2 (a b c : D) (l : List D) : ixL (a :: b :: c :: l) 2 M = some (.v c M) := ixL_nat (k := 2) M rfl
@[simp] theorem ixL_3 (a b c d : D) (l : List D) : ixL (a :: b :: c :: d :: l) 3 M = some (.v d M) := ixL_nat (k := 3) M rfl
@[simp] theorem ixL_4 (a b c d e : D) (l : List D) : ixL (a :: b :: c :: d :: e :: l) 4 M = some (.v e M) := ixL_nat (k := 4) M rfl
theorem ixL_last (l : List D) (a : D) : ixL (l ++ [a]) (-1) M = some (.v a M) := by
  unfold ixL atI ixN
  rw [if_neg (by decide), if_pos (by simp; omega)]
  show (match ((l ++ [a])[(-1 + ((l ++ [a]).length : Int)).toNat]?) with
    | some d => some (PO.v d M)
    | none => none) = _
  have e : (-1 + ((l ++ [a]).length : Int)).toNat = l.length := by simp; omega
  rw [e, List.getElem?_append_right (Nat.le_refl _), Nat.sub_self]
  rfl
@[simp] theorem pMul_str (z : PySem.Str) (k : Int) : pMul [.str z, .int k] M = if 0 ≤ k ∧ k ≤ 1000 ∧ z.length ≤ 1000 then some (.v (.str ⟨(List.replicate k.toNat z.cps.toList).flatten.toArray⟩) M) else none := rfl
@[simp] theorem pMul_tup (xs : List D) (k : Int) : pMul [.tup xs, .int k] M = if xs ≠ [] ∧ xs.length ≤ 1000 ∧ -1000000 ≤ k ∧ k ≤ 1000 then some (.v (.tup (List.replicate k.toNat xs).flatten) M) else none := rfl
theorem inD_tup2 (x a b : Int) : inD M (.int x) (.tup [.int a, .int b]) = some (decide (x = a ∨ x = b)) := by
  show some (inV (V.int x) [V.int a, V.int b]) = _
  congr 1
  have e : ∀ y : Int, eqV (V.int y) (V.int x) = decide (x = y) := fun y => by
    show (y == x) = _
    rw [Bool.beq_eq_decide_eq]
    exact decide_eq_decide.mpr eq_comm
  show (eqV (V.int a) (V.int x) || (eqV (V.int b) (V.int x) || false)) = _
  rw [e, e, Bool.or_false]
  by_cases h1 : x = a <;> by_cases h2 : x = b <;> simp [h1, h2]
end
/-! ### sums -/
theorem zip_app0 : ∀ (l m r : List Int), l.all isBit = true → List.zipWith x2 (l ++ r) (zs l.length ++ m) = l ++ List.zipWith x2 r m
  | [], m, r, _ => rfl
  | a :: l, m, r, h => by
    rw [List.all_cons, Bool.and_eq_true] at h
    show x2 a 0 :: List.zipWith x2 (l ++ r) (zs l.length ++ m) = _
    rw [zip_app0 l m r h.2, x2_0 h.1]; rfl
theorem zip_z : ∀ m : List Int, m.all isBit = true → List.zipWith x2 (zs m.length) m = m
  | [], _ => rfl
  | a :: m, h => by
    rw [List.all_cons, Bool.and_eq_true] at h
    show x2 0 a :: List.zipWith x2 (zs m.length) m = _
    rw [zip_z m h.2, x2_0l h.1]
theorem zip_zr (m : List Int) (h : m.all isBit = true) : List.zipWith x2 m (zs m.length) = m := by
  rw [zip_comm, zip_z m h]
theorem xorl_zip : ∀ (l d : List Int), l.all isBit = true → d.length ≤ l.length → xorl l d = List.zipWith x2 l (d ++ zs (l.length - d.length))
  | [], d, _, h => by simp [xorl]
  | a :: l, [], hb, _ => by
    have := zip_zr (a :: l) hb
    simpa [xorl] using this.symm
  | a :: l, e :: d, hb, h => by
    rw [List.all_cons, Bool.and_eq_true] at hb
    simp only [xorl, List.cons_append, List.zipWith_cons_cons, List.length_cons, Nat.add_sub_add_right]
    rw [xorl_zip l d hb.2 (by simpa using h)]
theorem rem_zl (ds l : List Int) (h : l.length = ds.length) : rem ds l = l := by
  unfold rem
  rw [if_neg (by omega), h, Nat.sub_self]
  cases l <;> rfl
/-- a shifted divisor added changes nothing -/
theorem rem_add (ds pre l : List Int) (hp : pre.all isBit = true) (hl : l.all isBit = true) (hd : ds.all isBit = true) (h : ds.length + 1 ≤ l.length) : rem ds (pre ++ xorl l (1 :: ds)) = rem ds (pre ++ l) := by
  have e1 := xorl_zip l (1 :: ds) hl (by simpa using h)
  have e2 := zip_app0 pre ((1 :: ds) ++ zs (l.length - (1 :: ds).length)) l hp
  rw [← e1] at e2
  rw [← e2]
  have hs : ((zs pre.length) ++ ((1 :: ds) ++ zs (l.length - (1 :: ds).length))).all isBit = true := by
    rw [List.all_append, zs_bits, List.all_append, zs_bits, List.all_cons, hd]; rfl
  have lin := rem_lin ds (pre ++ l) (zs pre.length ++ ((1 :: ds) ++ zs (l.length - (1 :: ds).length))) (by rw [List.all_append, hp, hl]; rfl) hs (by simp [zs_len]; omega)
  rw [← lin, rem_shift, ← rem_len ds (pre ++ l)]
  exact zip_zr _ (rem_bits _ _ (by rw [List.all_append, hp, hl]; rfl))
theorem xorl_map : ∀ (r d : List Int), r.length = d.length → (List.range r.length).map (fun k => x2 (r.getD k 0) (d.getD k 0)) = xorl r d
  | [], [], _ => rfl
  | [], _ :: _, h => by cases h
  | _ :: _, [], h => by cases h
  | a :: r, b :: d, h => by
    rw [List.length_cons, List.range_succ_eq_map, List.map_cons, List.map_map]
    show _ :: _ = x2 a b :: xorl r d
    rw [← xorl_map r d (by simpa using h)]
    rfl
end Mo
/-! Mo26: rows of coded things; less than, of tuples; the best of many. -/
namespace Mo
open PySem PySem.Spec L2
open PyProof.Rows hiding St

theorem mapO_enc {α β : Type} {f : α → Option β} {e : β → α} (he : ∀ b, f (e b) = some b) : ∀ l : List β, mapO f (l.map e) = some l
  | [] => rfl
  | b :: l => by rw [List.map_cons, mapO, he, mapO_enc he l]
theorem mapO_ok {α β : Type} {f : α → Option β} {e : β → α} (hf : ∀ a b, f a = some b → a = e b) : ∀ {xs : List α} {l : List β}, mapO f xs = some l → xs = l.map e
  | [], l, h => by cases h; rfl
  | a :: xs, l, h => by
    unfold mapO at h
    cases q1 : f a with
    | none => rw [q1] at h; cases h
    | some b =>
      cases q2 : mapO f xs with
      | none => rw [q1, q2] at h; cases h
      | some m =>
        rw [q1, q2] at h
        cases h
        rw [List.map_cons, hf a b q1, mapO_ok hf q2]
@[simp] theorem pLt_tup2 {M : Store} (a b c d : Int) : pLt [.tup [.int a, .int b], .tup [.int c, .int d]] M = some (.v (.bl (HT.lexLt [a, b] [c, d])) M) := rfl
/-- less than, of pairs -/
def ltP (x y : Int × Int) : Bool := if x.1 = y.1 then decide (x.2 < y.2) else decide (x.1 < y.1)
theorem lex_ltP (a b c d : Int) : HT.lexLt [a, b] [c, d] = ltP (a, b) (c, d) := by
  show (if a = c then (if b = d then false else decide (b < d)) else decide (a < c)) = _
  unfold ltP
  dsimp only
  split
  · split
    · rename_i h; subst h; simp
    · rfl
  · rfl
def leP (x y : Int × Int) : Prop := x.1 < y.1 ∨ (x.1 = y.1 ∧ x.2 ≤ y.2)
theorem leP_refl (x : Int × Int) : leP x x := .inr ⟨rfl, Int.le_refl _⟩
theorem leP_trans {x y z : Int × Int} (h : leP x y) (h2 : leP y z) : leP x z := by
  unfold leP at *
  omega
theorem ltP_le {x y : Int × Int} (h : ltP x y = true) : leP x y := by
  unfold ltP at h
  unfold leP
  split at h
  · have := of_decide_eq_true h; omega
  · have := of_decide_eq_true h; omega
theorem ltP_not {x y : Int × Int} (h : ltP x y = false) : leP y x := by
  unfold ltP at h
  unfold leP
  split at h
  · have := of_decide_eq_false h; omega
  · have := of_decide_eq_false h; omega
theorem getD_set {α : Type} (l : List α) (i j : Nat) (x d : α) (h : i < l.length) : (l.set i x).getD j d = if i = j then x else l.getD j d := by
  rw [List.getD_eq_getElem?_getD, List.getD_eq_getElem?_getD, List.getElem?_set]
  by_cases c : i = j
  · subst c; simp [h]
  · simp [c]
/-! ### the decoder's step, in plain Lean -/
structure Rw where
  s : Nat
  b : Int
  f : Int
  g : Int
  a : Nat
abbrev Pth := Option (Int × Int)
def optR (p0 p1 : Int) (r : Rw) (q : Int × Int) : Int × Int := (q.1 + x2 r.f p0 + x2 r.g p1, 2 * q.2 + r.b)
def updI (paths : List Pth) (p0 p1 : Int) (found : List Pth) (r : Rw) : List Pth := match paths.getD r.s none with
  | none => found
  | some q => match found.getD r.a none with
    | none => found.set r.a (some (optR p0 p1 r q))
    | some o => if ltP (optR p0 p1 r q) o = true then found.set r.a (some (optR p0 p1 r q)) else found
def advI (paths : List Pth) (rs : List Rw) (p0 p1 : Int) : List Pth := rs.foldl (updI paths p0 p1) (List.replicate 16 none)
theorem updI_len (paths : List Pth) (p0 p1 : Int) (found : List Pth) (r : Rw) : (updI paths p0 p1 found r).length = found.length := by
  unfold updI
  split
  · rfl
  · split
    · exact List.length_set
    · split
      · exact List.length_set
      · rfl
theorem advI_len (paths : List Pth) (rs : List Rw) (p0 p1 : Int) : (advI paths rs p0 p1).length = 16 := by
  have key : ∀ (rs : List Rw) (f : List Pth), (rs.foldl (updI paths p0 p1) f).length = f.length := by
    intro rs
    induction rs with
    | nil => intro f; rfl
    | cons r rs ih => intro f; rw [List.foldl_cons, ih, updI_len]
  exact (key rs _).trans List.length_replicate
/-- what was found for the state a by some rows -/
def Best (paths : List Pth) (p0 p1 : Int) (rs : List Rw) (a : Nat) : Pth → Prop
  | none => ∀ r ∈ rs, r.a = a → paths.getD r.s none = none
  | some o => (∃ r ∈ rs, r.a = a ∧ ∃ q, paths.getD r.s none = some q ∧ o = optR p0 p1 r q) ∧ ∀ r ∈ rs, r.a = a → ∀ q, paths.getD r.s none = some q → leP o (optR p0 p1 r q)
theorem best_step {paths : List Pth} {p0 p1 : Int} {rs : List Rw} {found : List Pth} (hl : found.length = 16) {r : Rw} (hr : r.a < 16) (h : ∀ a, a < 16 → Best paths p0 p1 rs a (found.getD a none)) : ∀ a, a < 16 → Best paths p0 p1 (rs ++ [r]) a ((updI paths p0 p1 found r).getD a none) := by
  intro a ha
  have old := h a ha
  -- nothing new for a
  have keep : (r.a = a → paths.getD r.s none = none) → Best paths p0 p1 (rs ++ [r]) a (found.getD a none) := fun hn => by
    cases hf : found.getD a none with
    | none =>
      rw [hf] at old
      intro r' hr' e
      rcases List.mem_append.mp hr' with hr' | hr'
      · exact old r' hr' e
      · rw [List.mem_singleton] at hr'; subst hr'; exact hn e
    | some o =>
      rw [hf] at old
      obtain ⟨⟨r1, m1, e1, q1, g1, g2⟩, o2⟩ := old
      refine ⟨⟨r1, List.mem_append_left _ m1, e1, q1, g1, g2⟩, fun r' hr' e q hq => ?_⟩
      rcases List.mem_append.mp hr' with hr' | hr'
      · exact o2 r' hr' e q hq
      · rw [List.mem_singleton] at hr'; subst hr'; rw [hn e] at hq; cases hq
  unfold updI
  split
  · rename_i hp; exact keep fun _ => hp
  · rename_i q hp
    have new : r.a = a → (∀ o, found.getD a none = some o → leP (optR p0 p1 r q) o) → Best paths p0 p1 (rs ++ [r]) a (some (optR p0 p1 r q)) := fun e hle => by
      refine ⟨⟨r, List.mem_append_right _ (List.mem_singleton.mpr rfl), e, q, hp, rfl⟩, fun r' hr' e' q' hq' => ?_⟩
      rcases List.mem_append.mp hr' with hr' | hr'
      · cases hf : found.getD a none with
        | none => rw [hf] at old; rw [old r' hr' e'] at hq'; cases hq'
        | some o =>
          rw [hf] at old
          exact leP_trans (hle o hf) (old.2 r' hr' e' q' hq')
      · rw [List.mem_singleton] at hr'; subst hr'; rw [hp] at hq'; cases hq'; exact leP_refl _
    split
    · rename_i hf
      rw [getD_set _ _ _ _ _ (by omega)]
      split
      · rename_i e; exact new e fun o ho => by rw [← e, hf] at ho; cases ho
      · rename_i e; exact keep fun e' => absurd e' e
    · rename_i o hf
      split
      · rename_i hlt
        rw [getD_set _ _ _ _ _ (by omega)]
        split
        · rename_i e; exact new e fun o' ho => by rw [← e, hf] at ho; cases ho; exact ltP_le hlt
        · rename_i e; exact keep fun e' => absurd e' e
      · rename_i hlt
        have hlt : ltP (optR p0 p1 r q) o = false := by simpa using hlt
        by_cases e : r.a = a
        · subst e
          rw [hf] at old ⊢
          obtain ⟨⟨r1, m1, e1, q1, g1, g2⟩, o2⟩ := old
          refine ⟨⟨r1, List.mem_append_left _ m1, e1, q1, g1, g2⟩, fun r' hr' e' q' hq' => ?_⟩
          rcases List.mem_append.mp hr' with hr' | hr'
          · exact o2 r' hr' e' q' hq'
          · rw [List.mem_singleton] at hr'; subst hr'; rw [hp] at hq'; cases hq'; exact ltP_not hlt
        · exact keep fun e' => absurd e' e
theorem adv_best (paths : List Pth) (p0 p1 : Int) (rs : List Rw) (hr : ∀ r ∈ rs, r.a < 16) : ∀ a, a < 16 → Best paths p0 p1 rs a ((advI paths rs p0 p1).getD a none) := by
  have key : ∀ (todo done : List Rw) (found : List Pth), found.length = 16 → (∀ r ∈ todo, r.a < 16) → (∀ a, a < 16 → Best paths p0 p1 done a (found.getD a none)) → ∀ a, a < 16 → Best paths p0 p1 (done ++ todo) a ((todo.foldl (updI paths p0 p1) found).getD a none) := by
    intro todo
    induction todo with
    | nil => intro done found _ _ h a ha; rw [List.append_nil]; exact h a ha
    | cons r todo ih =>
      intro done found hl hr h a ha
      rw [List.foldl_cons, show done ++ r :: todo = (done ++ [r]) ++ todo by simp]
      exact ih (done ++ [r]) _ ((updI_len ..).trans hl) (fun r' h' => hr r' (List.mem_cons_of_mem _ h')) (best_step hl (hr r List.mem_cons_self) h) a ha
  have := key rs [] (List.replicate 16 none) List.length_replicate hr (fun a ha => by
    have e : (List.replicate 16 (none : Pth)).getD a none = none := by
      rw [List.getD_eq_getElem?_getD, List.getElem?_replicate]
      split <;> rfl
    rw [e]
    intro r hr
    cases hr)
  exact this
end Mo
/-! Mo27: loops by the number of the turn; the script compared. -/
namespace Mo
open PySem PySem.Spec L2
open PyProof.Rows hiding St

section
variable {kl : List Nat} {F : D → Sl → Store → Option SO}
/-- a loop over items: the state by the turn -/
theorem forL_emb {α : Type} {g : Option (Nat × List D)} (e : α → D) (emb : Nat → Sl × Store) (xs : List α) (hg : ∀ k, k ≤ xs.length → gdOk g (emb k).2) (hk : kill (emb xs.length).1 kl = (emb xs.length).1)
    (hs : ∀ k x, xs[k]? = some x → killN kl (F (e x) (emb k).1 (emb k).2) = some (.nx (emb (k + 1)).1 (emb (k + 1)).2)) :
    forL g kl F (xs.map e) (emb 0).1 (emb 0).2 = some (.nx (emb xs.length).1 (emb xs.length).2) := by
  have gen : ∀ (ys : List α) (n : Nat), n + ys.length = xs.length → (∀ k x, ys[k]? = some x → xs[n + k]? = some x) → forL g kl F (ys.map e) (emb n).1 (emb n).2 = some (.nx (emb xs.length).1 (emb xs.length).2) := by
    intro ys
    induction ys with
    | nil =>
      intro n hn _
      have hn : n = xs.length := by simpa using hn
      subst hn
      rw [List.map_nil, forL_nil, if_pos (hg _ (Nat.le_refl _)), hk]
    | cons y ys ih =>
      intro n hn hy
      obtain ⟨δ', e1, e2⟩ := killN_nx_of (hs n y (hy 0 y rfl))
      have hn' : n + (ys.length + 1) = xs.length := by simpa using hn
      have i := ih (n + 1) (by omega) fun k x hx => by
        have := hy (k + 1) x (by simpa using hx)
        rwa [show n + (k + 1) = n + 1 + k by omega] at this
      rw [List.map_cons, forL_cons, if_pos (hg n (by omega))]
      rcases e1 with e1 | e1 <;>
      · rw [e1]
        show forL g kl F (ys.map e) (kill δ' kl) _ = _
        rw [e2]
        exact i
  exact gen xs 0 (by omega) fun k x hx => by rwa [Nat.zero_add]
/-- a loop over a range -/
theorem forL_rng (n : Nat) (emb : Nat → Sl × Store) (hk : kill (emb n).1 kl = (emb n).1) (hs : ∀ k, k < n → killN kl (F (.int (k : Int)) (emb k).1 (emb k).2) = some (.nx (emb (k + 1)).1 (emb (k + 1)).2)) :
    forL none kl F ((List.range n).map fun k : Nat => .int (k : Int)) (emb 0).1 (emb 0).2 = some (.nx (emb n).1 (emb n).2) := by
  have := forL_emb (g := none) (kl := kl) (F := F) (fun k : Nat => D.int (k : Int)) emb (List.range n) (fun _ _ => trivial) (by rw [List.length_range]; exact hk) fun k x hx => by
    obtain ⟨h1, h2⟩ := List.getElem?_eq_some_iff.mp hx
    rw [List.length_range] at h1
    have : x = k := by rw [← h2, List.getElem_range]
    subst this
    exact hs x h1
  rwa [List.length_range] at this
/-- a loop over a range: the store by an invariant -/
theorem forL_rngI {δ : Sl} (hk : kill δ kl = δ) (P : Nat → Store → Prop) (n : Nat) (M : Store) (h0 : P 0 M) (hs : ∀ k M, k < n → P k M → ∃ M', P (k + 1) M' ∧ killN kl (F (.int (k : Int)) δ M) = some (.nx δ M')) :
    ∃ M', P n M' ∧ forL none kl F ((List.range n).map fun k : Nat => .int (k : Int)) δ M = some (.nx δ M') := by
  obtain ⟨M', h1, h2⟩ := forL_inv (g := none) (F := F) hk P (fun _ _ _ => trivial) ((List.range n).map fun k : Nat => D.int (k : Int)) 0 M h0 fun i N x hx p => by
    have hi : i < n := by
      have := (List.getElem?_eq_some_iff.mp hx).1
      simpa using this
    rw [List.getElem?_map, List.getElem?_range hi] at hx
    obtain rfl : D.int (i : Int) = x := by simpa using hx
    rw [Nat.zero_add] at p ⊢
    exact hs i N hi p
  rw [List.length_map, List.length_range, Nat.zero_add] at h1
  exact ⟨M', h1, h2⟩
end
@[simp] theorem eqN_scr_lst (M : Store) (n : Nat) (xs ys : List D) : eqN M (n + 1) (.scr xs) (.lst ys) = eqL M n xs ys := eqN_lst xs ys
def tIs (t : Ty) : Option Ob → Option Bool
  | some (.lst _) => some (decide (t = .list))
  | some (.dk _) => some false
  | some (.dt _) => some false
  | _ => none
@[simp] theorem tIs_lst (t : Ty) (xs : List D) : tIs t (some (.lst xs)) = some (decide (t = .list)) := rfl
@[simp] theorem tIs_dk (t : Ty) (xs : List (Key × D)) : tIs t (some (.dk xs)) = some false := rfl
@[simp] theorem tIs_dt (t : Ty) (xs : List (List Key × D)) : tIs t (some (.dt xs)) = some false := rfl
@[simp] theorem isTy_oidS (t : Ty) (M : Store) (n : Nat) : isTy t M (.oid n) = tIs t M[n]? := by
  have e : isTy t M (.oid n) = (match M[n]? with
    | some (.lst _) => some (t == .list)
    | some (.dk _) => some false
    | some (.dt _) => some false
    | _ => none) := by cases t <;> rfl
  rw [e]
  cases M[n]? with
  | none => rfl
  | some o => cases o <;> cases t <;> rfl
/-- one cell of the script, if there is one -/
theorem scr_ix {ns : List Int} (M : Store) {k : Int} (h0 : 0 ≤ k) (h : k < (ns.length : Int)) : ∃ c, ixL (ns.map D.int) k M = some (.v (.int c) M) := by
  obtain ⟨j, rfl⟩ := Int.eq_ofNat_of_zero_le h0
  exact ⟨_, ixL_ints M (by omega)⟩
theorem okDiv_nat {n : Nat} (h : 0 < n) (h2 : n ≤ 1000000000000000000) : okDiv (n : Int) = true := okDiv_of (by omega) (by
  have e : (1000000000000000000 : Int) < 2 ^ 250 := by decide +kernel
  omega)
theorem okDiv_le {j : Int} (h : 0 < j) (h2 : j ≤ 1000000000000000000) : okDiv j = true := okDiv_of h (by
  have e : (1000000000000000000 : Int) < 2 ^ 250 := by decide +kernel
  omega)
theorem okMul_le {i j : Int} (h : -1000000000000000000 ≤ i) (h2 : i ≤ 1000000000000000000) (h3 : -1000000000000000000 ≤ j) (h4 : j ≤ 1000000000000000000) : okMul i j = true := okMul_of
  (Nat.lt_of_le_of_lt (show i.natAbs ≤ 1000000000000000000 by omega) (by decide +kernel)) (Nat.lt_of_le_of_lt (show j.natAbs ≤ 1000000000000000000 by omega) (by decide +kernel))
end Mo
namespace Mo
open PySem PySem.Spec L2
open PyProof.Rows hiding St
section
variable {kl : List Nat} {F : D → Sl → Store → Option SO}
/-- a loop over items: a state that is told by a property -/
theorem forL_P {α β : Type} {g : Option (Nat × List D)} (e : β → D) (emb : α → Sl × Store) (P : Nat → α → Prop) (xs : List β) (a : α) (p : P 0 a) (hg : ∀ i a, P i a → gdOk g (emb a).2) (hk : ∀ a, P xs.length a → kill (emb a).1 kl = (emb a).1)
    (hs : ∀ k x a, xs[k]? = some x → P k a → ∃ a', P (k + 1) a' ∧ killN kl (F (e x) (emb a).1 (emb a).2) = some (.nx (emb a').1 (emb a').2)) :
    ∃ a', P xs.length a' ∧ forL g kl F (xs.map e) (emb a).1 (emb a).2 = some (.nx (emb a').1 (emb a').2) := by
  have gen : ∀ (ys : List β) (n : Nat) (a : α), P n a → n + ys.length = xs.length → (∀ k x, ys[k]? = some x → xs[n + k]? = some x) → ∃ a', P xs.length a' ∧ forL g kl F (ys.map e) (emb a).1 (emb a).2 = some (.nx (emb a').1 (emb a').2) := by
    intro ys
    induction ys with
    | nil =>
      intro n a pa hn _
      have hn : n = xs.length := by simpa using hn
      subst hn
      exact ⟨a, pa, by rw [List.map_nil, forL_nil, if_pos (hg _ _ pa), hk _ pa]⟩
    | cons y ys ih =>
      intro n a pa hn hy
      obtain ⟨a1, p1, h1⟩ := hs n y a (hy 0 y rfl) pa
      obtain ⟨δ', e1, e2⟩ := killN_nx_of h1
      have hn' : n + (ys.length + 1) = xs.length := by simpa using hn
      obtain ⟨a', p', h'⟩ := ih (n + 1) a1 p1 (by omega) fun k x hx => by
        have := hy (k + 1) x (by simpa using hx)
        rwa [show n + (k + 1) = n + 1 + k by omega] at this
      refine ⟨a', p', ?_⟩
      rw [List.map_cons, forL_cons, if_pos (hg n a pa)]
      rcases e1 with e1 | e1 <;>
      · rw [e1]
        show forL g kl F (ys.map e) (kill δ' kl) _ = _
        rw [e2]
        exact h'
  exact gen xs 0 a p (by omega) fun k x hx => by rwa [Nat.zero_add]
/-- over a range -/
theorem forL_rngP {α : Type} (emb : α → Sl × Store) (P : Nat → α → Prop) (n : Nat) (a : α) (p : P 0 a) (hk : ∀ a, P n a → kill (emb a).1 kl = (emb a).1) (hs : ∀ k a, k < n → P k a → ∃ a', P (k + 1) a' ∧ killN kl (F (.int (k : Int)) (emb a).1 (emb a).2) = some (.nx (emb a').1 (emb a').2)) :
    ∃ a', P n a' ∧ forL none kl F ((List.range n).map fun k : Nat => .int (k : Int)) (emb a).1 (emb a).2 = some (.nx (emb a').1 (emb a').2) := by
  have := forL_P (g := none) (kl := kl) (F := F) (fun k : Nat => D.int (k : Int)) emb P (List.range n) a p (fun _ _ _ => trivial) (fun a h => hk a (by rwa [List.length_range] at h)) fun k x a hx pa => by
    obtain ⟨h1, h2⟩ := List.getElem?_eq_some_iff.mp hx
    rw [List.length_range] at h1
    have : x = k := by rw [← h2, List.getElem_range]
    subst this
    exact hs x a h1 pa
  rwa [List.length_range] at this
end
theorem div_pos_iff {n : Int} {k : Nat} : 0 < n / 2 ^ k ↔ (2 : Int) ^ k ≤ n := by
  have hp : (0 : Int) < 2 ^ k := Int.pow_pos (by decide)
  constructor
  · intro h
    by_cases c : (2 : Int) ^ k ≤ n
    · exact c
    · by_cases h0 : 0 ≤ n
      · rw [Int.ediv_eq_zero_of_lt h0 (by omega)] at h
        exact absurd h (by decide)
      · have := Int.ediv_lt_of_lt_mul (a := n) (b := 0) hp (by omega)
        omega
  · intro h
    exact Int.lt_of_lt_of_le (by decide : (0 : Int) < 1) (Int.le_ediv_of_mul_le hp (by omega))
end Mo
namespace Mo
open PySem PySem.Spec L2
open PyProof.Rows hiding St
/-! ### rows of natural numbers -/
def nD (ps : List Nat) : List D := ps.map fun p : Nat => D.int (p : Int)
@[simp] theorem nD_nil : nD [] = [] := rfl
@[simp] theorem nD_len (ps : List Nat) : (nD ps).length = ps.length := List.length_map _
theorem nD_snoc (ps : List Nat) (p : Nat) : nD (ps ++ [p]) = nD ps ++ [.int (p : Int)] := by unfold nD; rw [List.map_append]; rfl
theorem nD_ints (ps : List Nat) : nD ps = (ps.map fun p : Nat => (p : Int)).map D.int := by unfold nD; rw [List.map_map]; rfl
theorem inLs_nD {M : Store} (p : Nat) : ∀ ps : List Nat, inLs M (.int (p : Int)) (nD ps) = some (decide (p ∈ ps))
  | [] => by simp
  | q :: ps => by
    show inLs M (.int (p : Int)) (.int (q : Int) :: nD ps) = _
    rw [inLs_cons, inLs_nD p ps, eqN_int, orO_tt]
    congr 1
    by_cases h : q = p
    · subst h; simp
    · have h1 : ¬ (q : Int) = (p : Int) := by omega
      have h2 : ¬ p = q := fun e => h e.symm
      by_cases h3 : p ∈ ps <;> simp [h1, h2, h3]
theorem eqL_nD {M : Store} {n : Nat} (ps : List Nat) : eqL M (n + 1) (nD ps) (nD ps) = some true := by rw [nD_ints, eqL_ints]; simp
theorem eqL_self {M : Store} {n : Nat} (ns : List Int) : eqL M (n + 1) (ns.map D.int) (ns.map D.int) = some true := by rw [eqL_ints]; simp
theorem set_same {N : Store} {a : Nat} {o : Ob} (h : N[a]? = some o) : N.set a o = N := by
  refine List.ext_getElem? fun i => ?_
  by_cases c : a = i
  · subst c
    rw [List.getElem?_set_self (List.getElem?_eq_some_iff.mp h).1, h]
  · rw [List.getElem?_set_ne c]
theorem pow_half (v : Int) (k : Nat) : v / 2 ^ (k + 1) = v / 2 ^ k / 2 := by rw [Int.pow_succ, Int.ediv_ediv_of_nonneg (Int.le_of_lt (Int.pow_pos (by decide)))]
end Mo
namespace Mo
open PySem PySem.Spec L2
open PyProof.Rows hiding St
theorem bLow_add : ∀ (k j : Nat) (c r : Int), 0 ≤ r → r < 2 ^ k → bLow (c * 2 ^ k + r) (k + j) = bLow r k ++ bLow c j
  | 0, j, c, r, h0, h1 => by
    have : r = 0 := by simp at h1; omega
    subst this
    simp [bLow]
  | k + 1, j, c, r, h0, h1 => by
    rw [Int.pow_succ] at h1
    rw [show k + 1 + j = (k + j) + 1 by omega, bLow, bLow, List.cons_append]
    have e0 : c * 2 ^ (k + 1) = 2 * (c * 2 ^ k) := by rw [Int.pow_succ, ← Int.mul_assoc, Int.mul_comm]
    have e1 : (c * 2 ^ (k + 1) + r) % 2 = r % 2 := by rw [e0]; omega
    have e2 : (c * 2 ^ (k + 1) + r) / 2 = c * 2 ^ k + r / 2 := by rw [e0]; omega
    rw [e1, e2, bLow_add k j c (r / 2) (by omega) (by omega)]
theorem bHigh_add (k j : Nat) (c r : Int) (h0 : 0 ≤ r) (h1 : r < 2 ^ k) : bHigh (c * 2 ^ k + r) (j + k) = bHigh c j ++ bHigh r k := by
  unfold bHigh
  rw [Nat.add_comm j k, bLow_add k j c r h0 h1, List.reverse_append]
theorem bHigh_succ (n : Int) (k : Nat) : bHigh n (k + 1) = (n / 2 ^ k % 2) :: bHigh n k := by
  unfold bHigh
  have e1 : bLow n (k + 1) = bLow n k ++ [n / 2 ^ k % 2] := by
    rw [← bLow_map, ← bLow_map, List.range_succ, List.map_append]; rfl
  rw [e1, List.reverse_append]; rfl
theorem all_take {p : Int → Bool} {l : List Int} (h : l.all p = true) (n : Nat) : (l.take n).all p = true := List.all_eq_true.mpr fun _ hb => all_memI h (List.mem_of_mem_take hb)
theorem all_drop {p : Int → Bool} {l : List Int} (h : l.all p = true) (n : Nat) : (l.drop n).all p = true := List.all_eq_true.mpr fun _ hb => all_memI h (List.mem_of_mem_drop hb)
end Mo
namespace Mo
open PySem PySem.Spec L2
open PyProof.Rows hiding St
@[simp] theorem pAdd_oo {M : Store} (n k : Nat) : pAdd [.oid n, .oid k] M = match tV M[n]?, tV M[k]? with
    | some xs, some ys => if xs.length + ys.length ≤ line then some (.nl (xs ++ ys)) else none
    | _, _ => none := by
  rw [← viewL_get, ← viewL_get]
  show (match viewH M (.oid n), viewH M (.oid k) with
    | some xs, some ys => if xs.length + ys.length ≤ line then some (PO.nl (xs ++ ys)) else none
    | _, _ => none) = _
  rw [viewH_oid, viewH_oid]
theorem asI_map : ∀ ns : List Int, mapO asI (ns.map D.int) = some ns
  | [] => rfl
  | n :: ns => by rw [List.map_cons, mapO, asI_map ns]; rfl
@[simp] theorem okMul_rlit (i : Int) (j : Nat) (h : j < 2 ^ 63) : okMul i (no_index (@OfNat.ofNat Int j instOfNat)) = true := okMul_r h
@[simp] theorem okMul_llit (i : Int) (j : Nat) (h : j < 2 ^ 63) : okMul (no_index (@OfNat.ofNat Int j instOfNat)) i = true := okMul_l h
section
variable {v : Ev} {δ : Sl} {M : Store} {a b : E} {y d1 : D} {i j : Int} {n m : Nat} {xs ys : List D}
@[simp] theorem kSlc_eq : kSlc v a b y δ d1 M = bnd (evE v a δ M) (kSlc2 v b y δ d1) := rfl
@[simp] theorem kSlc2_eq : kSlc2 v b y δ d1 (.int i) M = bnd (evE v b δ M) (kSlc3 d1 i y δ) := rfl
@[simp] theorem kSlc3_eq : kSlc3 (.oid n) i (.oid m) δ (.int j) M = kSlc4 i j δ n m M M[n]? M[m]? := rfl
@[simp] theorem kSlc4_eq : kSlc4 i j δ n m M (some (.lst xs)) (some (.lst ys)) = if n ≠ m ∧ 0 ≤ i ∧ i ≤ j ∧ j ≤ (xs.length : Int) ∧ xs.length + ys.length ≤ line then some (.ok δ (M.set n (.lst (xs.take i.toNat ++ ys ++ xs.drop j.toNat)))) else none := rfl
end
end Mo
/-! Mo28: values by a decoder; loops that search; places of small lists. -/
namespace Mo
open PySem PySem.Spec L2
open PyProof.Rows hiding St

theorem mapO_eq {α : Type} {dec : D → Option α} {enc : α → D} (h : ∀ d a, dec d = some a → d = enc a) : ∀ {xs : List D} {as : List α}, mapO dec xs = some as → xs = as.map enc
  | [], as, q => by cases q; rfl
  | d :: xs, as, q => by
    unfold mapO at q
    cases e1 : dec d with
    | none => rw [e1] at q; cases q
    | some a =>
      cases e2 : mapO dec xs with
      | none => rw [e1, e2] at q; cases q
      | some bs =>
        rw [e1, e2] at q
        cases q
        rw [List.map_cons, ← h d a e1, ← mapO_eq h e2]
theorem mapO_dec {α : Type} {dec : D → Option α} {enc : α → D} (h : ∀ a, dec (enc a) = some a) : ∀ as : List α, mapO dec (as.map enc) = some as
  | [] => rfl
  | a :: as => by rw [List.map_cons, mapO, h, mapO_dec h as]
/-- a maybe -/
def oI : Option Int → D
  | none => .non
  | some i => .int i
@[simp] theorem oI_none : oI none = .non := rfl
@[simp] theorem oI_some (i : Int) : oI (some i) = .int i := rfl
@[simp] theorem isExr_oI (o : Option Int) : isExr (oI o) = false := by cases o <;> rfl
@[simp] theorem bnd_oI (n : Nat) (o : Option Int) : D.bnd n (oI o) = true := by cases o <;> rfl
@[simp] theorem isNon_oI (o : Option Int) : isNon (oI o) = o.isNone := by cases o <;> rfl
@[simp] theorem isTy_bool_oI (M : Store) (o : Option Int) : isTy .bool M (oI o) = some false := by cases o <;> rfl
@[simp] theorem isTy_int_oI (M : Store) (o : Option Int) : isTy .int M (oI o) = some o.isSome := by cases o <;> rfl
theorem eqN_oI (M : Store) (n : Nat) (a b : Option Int) : eqN M (n + 1) (oI a) (oI b) = some (decide (a = b)) := by
  cases a <;> cases b <;> simp
theorem eqN_oI_self (M : Store) (n : Nat) (a : Option Int) : eqN M (n + 1) (oI a) (oI a) = some true := by rw [eqN_oI]; simp
@[simp] theorem okDn_oI (n : Nat) (o : Option Int) : okDn (n + 1) (oI o) = true := by cases o <;> simp

section
variable {kl : List Nat} {F : D → Sl → Store → Option SO}
/-- a loop that searches: it returns at the first item that p takes -/
theorem forL_find {β : Type} {g : Option (Nat × List D)} {δ : Sl} {M : Store} (e : β → D) (p : β → Bool) (r : β → D) (hg : gdOk g M) (hk : kill δ kl = δ) : ∀ xs : List β,
    (∀ x ∈ xs, (p x = true → F (e x) δ M = some (.rt (r x) M)) ∧ (p x = false → killN kl (F (e x) δ M) = some (.nx δ M))) →
    forL g kl F (xs.map e) δ M = match xs.find? p with
      | some x => some (.rt (r x) M)
      | none => some (.nx δ M)
  | [], _ => by rw [List.map_nil, forL_nil, if_pos hg, hk]; rfl
  | x :: xs, h => by
    obtain ⟨h1, h2⟩ := h x List.mem_cons_self
    rw [List.map_cons, forL_cons, if_pos hg, List.find?_cons]
    cases c : p x with
    | true => rw [h1 c]
    | false =>
      obtain ⟨δ', e1, e2⟩ := killN_nx_of (h2 c)
      have ih := forL_find e p r hg hk xs fun y hy => h y (List.mem_cons_of_mem _ hy)
      rcases e1 with e1 | e1 <;>
      · rw [e1]
        show forL g kl F (xs.map e) (kill δ' kl) _ = _
        rw [e2]
        exact ih
end
theorem find_congr {α : Type} {p q : α → Bool} : ∀ {l : List α}, (∀ x ∈ l, p x = q x) → l.find? p = l.find? q
  | [], _ => rfl
  | a :: l, h => by
    rw [List.find?_cons, List.find?_cons, h a List.mem_cons_self, find_congr fun x hx => h x (List.mem_cons_of_mem _ hx)]
theorem range_getD {α : Type} (A : List α) (d : α) : (List.range A.length).map (fun k => A.getD k d) = A := by
  refine List.ext_getElem? fun i => ?_
  by_cases h : i < A.length
  · rw [List.getElem?_map, List.getElem?_range h, List.getElem?_eq_getElem h]
    simp [List.getD, h]
  · rw [List.getElem?_eq_none (by simp; omega), List.getElem?_eq_none (by omega)]
theorem getD_lt {α : Type} {A : List α} {k : Nat} (d : α) (h : k < A.length) : A[k]? = some (A.getD k d) := by
  rw [List.getElem?_eq_getElem h]
  simp [List.getD, h]
theorem getD_mem {α : Type} {A : List α} {k : Nat} (d : α) (h : k < A.length) : A.getD k d ∈ A := by
  have := getD_lt d h
  exact List.mem_of_getElem? this
theorem mem_getD {α : Type} {A : List α} {a : α} (d : α) (h : a ∈ A) : ∃ k, k < A.length ∧ A.getD k d = a := by
  obtain ⟨k, hk⟩ := List.mem_iff_getElem?.mp h
  have hl := (List.getElem?_eq_some_iff.mp hk).1
  exact ⟨k, hl, Option.some.inj ((getD_lt d hl).symm.trans hk)⟩
theorem ixL_map {α : Type} (e : α → D) {A : List α} {k : Nat} (d : α) (M : Store) (h : k < A.length) : ixL (A.map e) (k : Int) M = some (.v (e (A.getD k d)) M) :=
  ixL_nat M (by rw [List.getElem?_map, getD_lt d h]; rfl)
/-- equal rows of values -/
theorem eqL_enc {α : Type} [DecidableEq α] {M : Store} {n : Nat} {e : α → D} (h : ∀ a b, eqN M n (e a) (e b) = some (decide (a = b))) (h0 : ∀ a, okDn n (e a) = true) : ∀ as bs : List α, eqL M n (as.map e) (bs.map e) = some (decide (as = bs))
  | [], [] => by simp
  | a :: as, [] => by
    obtain ⟨p, hp, _⟩ := okDn_self (M := M) n (e a) (h0 a)
    obtain ⟨ps, hps, _⟩ := okL_self (M := M) (okDn_self n) (as.map e) (by simp [h0])
    unfold eqL
    rw [List.map_cons, mapO, hp, hps]
    simp [mapO, PyData.eqvAll]
  | [], b :: bs => by
    obtain ⟨p, hp, _⟩ := okDn_self (M := M) n (e b) (h0 b)
    obtain ⟨ps, hps, _⟩ := okL_self (M := M) (okDn_self n) (bs.map e) (by simp [h0])
    unfold eqL
    rw [List.map_cons, mapO, hp, hps]
    simp [mapO, PyData.eqvAll]
  | a :: as, b :: bs => by
    rw [List.map_cons, List.map_cons, eqL_cons, h, eqL_enc h h0 as bs, andO_tt]
    simp
/-- lists are alike with themselves -/
theorem eqN_lst_self {M : Store} {n : Nat} {xs : List D} (h : xs.all (okDn n) = true) : eqN M (n + 1) (.lst xs) (.lst xs) = some true := eqN_self (by rw [okDn_lst]; exact h)
@[simp] theorem pLrev_lst (M : Store) (xs : List D) : pLrev [.lst xs] M = some (.nl xs.reverse) := rfl
@[simp] theorem pLrev_oid (M : Store) (n : Nat) : pLrev [.oid n] M = (tV M[n]?).map fun xs => .nl xs.reverse := by
  show (viewL M (.oid n)).map _ = _
  rw [viewL_get]
/-- a pair of ints -/
def pD (p : Int × Int) : D := .tup [.int p.1, .int p.2]
def pairI : D → Option (Int × Int)
  | .tup [.int a, .int b] => some (a, b)
  | _ => none
theorem pairI_eq (d : D) (p : Int × Int) (h : pairI d = some p) : d = pD p := by
  unfold pairI at h
  split at h
  · cases h; rfl
  · cases h
@[simp] theorem pairsI_map (A : List (Int × Int)) : mapO pairI (A.map pD) = some A := mapO_dec (dec := pairI) (enc := pD) (fun _ => rfl) A
theorem pairsI_eq {xs : List D} {A : List (Int × Int)} (h : mapO pairI xs = some A) : xs = A.map pD := mapO_eq pairI_eq h
@[simp] theorem okDn_pD (n : Nat) (p : Int × Int) : okDn (n + 2) (pD p) = true := by simp [pD]
theorem eqN_pD (M : Store) (n : Nat) (p q : Int × Int) : eqN M (n + 2) (pD p) (pD q) = some (decide (p = q)) := by
  obtain ⟨a, b⟩ := p
  obtain ⟨c, d⟩ := q
  simp [pD]
theorem ok_pD (n : Nat) (A : List (Int × Int)) : (A.map pD).all (okDn (n + 2)) = true := by simp
theorem bnd_pD (n : Nat) : ∀ A : List (Int × Int), Ds.bnd n (A.map pD) = true
  | [] => rfl
  | p :: A => by rw [List.map_cons, bnd_cons, bnd_pD n A]; rfl
end Mo
/-! Mo29: what is worked out speaks of the store alone: a contract may be the def's own text. -/
namespace Mo
open PySem PySem.Spec L2
open PyProof.Rows hiding St

theorem Ds_all (n : Nat) : ∀ xs : List D, Ds.bnd n xs = xs.all (D.bnd n)
  | [] => rfl
  | x :: xs => by rw [bnd_cons, List.all_cons, Ds_all n xs]
theorem Ds_mem {n : Nat} {xs : List D} (h : Ds.bnd n xs = true) {x : D} (hx : x ∈ xs) : D.bnd n x = true := by
  rw [Ds_all, List.all_eq_true] at h
  exact h x hx
theorem Ds_of {n : Nat} {xs : List D} (h : ∀ x ∈ xs, D.bnd n x = true) : Ds.bnd n xs = true := by
  rw [Ds_all, List.all_eq_true]
  exact h
theorem Ds_sub {n : Nat} {xs ys : List D} (h : Ds.bnd n xs = true) (s : ∀ y ∈ ys, y ∈ xs) : Ds.bnd n ys = true := Ds_of fun y hy => Ds_mem h (s y hy)
theorem StB.at {M : Store} (hM : StB M) {n : Nat} {o : Ob} (h : M[n]? = some o) : Ob.bnd M.length o = true := hM o (List.mem_of_getElem? h)
theorem StB.lst {M : Store} (hM : StB M) {n : Nat} {xs : List D} (h : M[n]? = some (.lst xs)) : Ds.bnd M.length xs = true := hM.at h
theorem StB.fld {M : Store} (hM : StB M) {n c : Nat} {fs : List (Nat × D)} (h : M[n]? = some (.ins c fs)) {f : Nat} {y : D} (hf : fs.lookup f = some y) : D.bnd M.length y = true := by
  have := hM.at h
  exact List.all_eq_true.mp this _ (mem_lookupN hf)
theorem cut_mem {α : Type} {xs : List α} {lo hi : Option Int} : ∀ y ∈ cut xs lo hi, y ∈ xs := fun y hy => List.mem_of_mem_drop (List.mem_of_mem_take hy)
section
variable {M : Store} (hM : StB M)
include hM
theorem viewL_bd {d : D} {xs : List D} (hd : D.bnd M.length d = true) (h : viewL M d = some xs) : Ds.bnd M.length xs = true := by
  cases d with
  | lst ys => cases h; exact hd
  | scr ys => cases h; exact hd
  | oid n => exact hM.lst (viewL_iff.mp h)
  | _ => cases h
theorem viewH_bd {d : D} {xs : List D} (hd : D.bnd M.length d = true) (h : viewH M d = some xs) : Ds.bnd M.length xs = true := by
  cases d with
  | scr ys => cases h
  | lst ys => exact viewL_bd hM hd h
  | oid ys => exact viewL_bd hM hd h
  | _ => cases h
theorem viewS_bd {d : D} {xs : List D} (hd : D.bnd M.length d = true) (h : viewS M d = some xs) : Ds.bnd M.length xs = true := by
  cases d with
  | tup ys => cases h; exact hd
  | ktup ys => cases h; exact hd
  | lst ys => exact viewL_bd hM hd h
  | scr ys => exact viewL_bd hM hd h
  | oid ys => exact viewL_bd hM hd h
  | _ => cases h
theorem viewE_bd {d : D} {xs : List D} (hd : D.bnd M.length d = true) (h : viewE M d = some xs) : Ds.bnd M.length xs = true := by
  cases d with
  | scr ys => cases h
  | _ => exact viewS_bd hM hd h
end
def POB (n : Nat) : Option PO → Prop
  | some (.v d M) => n ≤ M.length ∧ StB M ∧ D.bnd M.length d = true
  | some (.nl xs) => Ds.bnd n xs = true
  | none => True
def RsB {α : Type} (n : Nat) (p : α → Nat → Prop) : Rs α → Prop
  | some (.ok a M) => n ≤ M.length ∧ StB M ∧ p a M.length
  | some (.exc x M) => n ≤ M.length ∧ StB M ∧ Fs.bnd M.length x.fs = true
  | none => True
abbrev DB : D → Nat → Prop := fun d n => D.bnd n d = true
abbrev DsB : List D → Nat → Prop := fun ds n => Ds.bnd n ds = true
def SlB (δ : Sl) (n : Nat) : Prop := ∀ (i : Nat) (d : D), δ[i]? = some (some d) → D.bnd n d = true
theorem Fs_mono {n m : Nat} (h : n ≤ m) {fs : List (Nat × D)} (hf : Fs.bnd n fs = true) : Fs.bnd m fs = true := by
  unfold Fs.bnd at *
  rw [List.all_eq_true] at *
  exact fun p hp => D.bnd_mono h _ (hf p hp)
theorem SlB.mono {δ : Sl} {n m : Nat} (h : SlB δ n) (hn : n ≤ m) : SlB δ m := fun i d e => D.bnd_mono hn _ (h i d e)
theorem SlB.set {δ : Sl} {n : Nat} (h : SlB δ n) (i : Nat) {d : D} (hd : D.bnd n d = true) : SlB (δ.set i (some d)) n := fun j e he => by
  rw [List.getElem?_set] at he
  split at he
  · split at he
    · cases he; exact hd
    · cases he
  · exact h j e he
theorem SlB.setN {δ : Sl} {n : Nat} (h : SlB δ n) (i : Nat) : SlB (δ.set i none) n := fun j e he => by
  rw [List.getElem?_set] at he
  split at he
  · split at he <;> cases he
  · exact h j e he
theorem SlB.kill {δ : Sl} {n : Nat} (h : SlB δ n) : ∀ is : List Nat, SlB (Mo.kill δ is) n
  | [] => h
  | i :: is => (SlB.kill h is).setN i
theorem RsB.le {α : Type} {n m : Nat} {p : α → Nat → Prop} {r : Rs α} (h : RsB m p r) (hn : n ≤ m) : RsB n p r := by
  cases r with
  | none => trivial
  | some o => cases o <;> exact ⟨Nat.le_trans hn h.1, h.2⟩
theorem RsB.bnd {α β : Type} {n : Nat} {p : α → Nat → Prop} {q : β → Nat → Prop} {r : Rs α} {k : α → Store → Rs β} (h : RsB n p r) (hk : ∀ a M, n ≤ M.length → StB M → p a M.length → RsB n q (k a M)) : RsB n q (Mo.bnd r k) := by
  cases r with
  | none => trivial
  | some o =>
    cases o with
    | ok a M => exact hk a M h.1 h.2.1 h.2.2
    | exc x M => exact h
theorem RsB.nox {α : Type} {n : Nat} {p : α → Nat → Prop} {r : Rs α} (h : RsB n p r) : RsB n p (Mo.nox r) := by
  cases r with
  | none => trivial
  | some o => cases o <;> first | exact h | trivial
theorem rokB {α : Type} {n : Nat} {p : α → Nat → Prop} {a : α} {M : Store} (h1 : n ≤ M.length) (h2 : StB M) (h3 : p a M.length) : RsB n p (rok a M) := ⟨h1, h2, h3⟩
theorem stb_new {M : Store} {o : Ob} (hM : StB M) (h : Ob.bnd M.length o = true) : StB (M ++ [o]) := stb_add hM (Ob.bnd_mono (Nat.le_succ _) o h)
theorem mkB {m : Bool} {xs : List D} {M : Store} {n : Nat} (h1 : n ≤ M.length) (hM : StB M) (h : Ds.bnd M.length xs = true) : RsB n DB (some (mk m xs M)) := by
  cases m with
  | false => exact ⟨h1, hM, h⟩
  | true =>
    refine ⟨by simp; omega, stb_new hM h, ?_⟩
    show decide _ = true
    simp
theorem poB {m : Bool} {M : Store} {n : Nat} {r : Option PO} (h1 : n ≤ M.length) (hM : StB M) (h : POB M.length r) : RsB n DB (po m M r) := by
  cases r with
  | none => trivial
  | some o =>
    cases o with
    | v d M2 => exact ⟨Nat.le_trans h1 h.1, h.2⟩
    | nl xs => exact mkB h1 hM h
theorem lookK_mem {κ : Type} [DecidableEq κ] {kvs : List (κ × D)} {k : κ} {y : D} (h : lookK kvs k = some y) : ∃ k', (k', y) ∈ kvs := by
  unfold lookK at h
  rw [Option.map_eq_some_iff] at h
  obtain ⟨p, h1, rfl⟩ := h
  exact ⟨p.1, List.mem_of_find?_eq_some h1⟩
theorem storeK_bd {κ : Type} [DecidableEq κ] {kvs : List (κ × D)} {k : κ} {y : D} {n : Nat} (h : (kvs.all fun p => D.bnd n p.2) = true) (hy : D.bnd n y = true) : ((storeK kvs k y).all fun p => D.bnd n p.2) = true := by
  rw [List.all_eq_true] at *
  intro p hp
  unfold storeK at hp
  split at hp
  · obtain ⟨q, hq, rfl⟩ := List.mem_map.mp hp
    split
    · exact hy
    · exact h q hq
  · rcases List.mem_append.mp hp with hp | hp
    · exact h p hp
    · rcases List.mem_singleton.mp hp with rfl
      exact hy
theorem setF_bd {f n : Nat} {y : D} (hy : D.bnd n y = true) : ∀ {fs : List (Nat × D)}, (fs.all fun p => D.bnd n p.2) = true → ((setF f y fs).all fun p => D.bnd n p.2) = true
  | [], _ => by unfold setF; simp [hy]
  | (g, w) :: r, h => by
    unfold setF
    rw [List.all_cons, Bool.and_eq_true] at h
    split
    · rw [List.all_cons, Bool.and_eq_true]; exact ⟨hy, h.2⟩
    · rw [List.all_cons, Bool.and_eq_true]; exact ⟨h.1, setF_bd hy h.2⟩
section
variable {M : Store} (hM : StB M)
include hM
theorem getD_bd {n : Nat} {k : D} {y : D} (h : Mo.getD M n k = some (some y)) : D.bnd M.length y = true := by
  unfold Mo.getD at h
  split at h
  · rename_i kvs hn
    rw [Option.map_eq_some_iff] at h
    obtain ⟨kk, _, h⟩ := h
    obtain ⟨k', hk⟩ := lookK_mem h
    have := hM.at hn
    exact List.all_eq_true.mp this _ hk
  · rename_i kvs hn
    split at h
    · rw [Option.map_eq_some_iff] at h
      obtain ⟨kk, _, h⟩ := h
      obtain ⟨k', hk⟩ := lookK_mem h
      have := hM.at hn
      exact List.all_eq_true.mp this _ hk
    · cases h
  · cases h
theorem setD_bd {n : Nat} {k y : D} {M' : Store} (hy : D.bnd M.length y = true) (h : setD M n k y = some M') : M'.length = M.length ∧ StB M' := by
  unfold setD at h
  split at h
  · rename_i kvs hn
    split at h
    · split at h
      · cases h
        exact ⟨by simp, stb_set n hM (storeK_bd (hM.at hn) hy)⟩
      · cases h
    · cases h
  · rename_i kvs hn
    split at h
    · split at h
      · split at h
        · cases h
          exact ⟨by simp, stb_set n hM (storeK_bd (hM.at hn) hy)⟩
        · cases h
      · cases h
    · cases h
  · cases h
theorem vB {d : D} (h : D.bnd M.length d = true) : POB M.length (some (.v d M)) := ⟨Nat.le_refl _, hM, h⟩
theorem sliceB {d : D} {lo hi : Option Int} (hd : D.bnd M.length d = true) : POB M.length (slice M d lo hi) := by
  unfold slice
  split
  · exact vB hM (Ds_sub (n := M.length) hd cut_mem)
  · split
    · trivial
    · exact vB hM (Ds_sub (n := M.length) hd cut_mem)
  · split
    · exact vB hM rfl
    · trivial
  · cases q : viewL M d with
    | none => trivial
    | some xs => exact Ds_sub (viewL_bd hM hd q) cut_mem
theorem ixLB {xs : List D} {i : Int} (h : Ds.bnd M.length xs = true) : POB M.length (ixL xs i M) := by
  unfold ixL
  split
  · rename_i d hd
    refine vB hM (Ds_mem h ?_)
    unfold atI at hd
    cases q : ixN xs.length i with
    | none => rw [q] at hd; cases hd
    | some j => rw [q] at hd; exact List.mem_of_getElem? hd
  · trivial
end
theorem bnd2 {n : Nat} {a b : D} (h : Ds.bnd n [a, b] = true) : D.bnd n a = true ∧ D.bnd n b = true := by
  rw [bnd_cons, bnd_cons, Bool.and_eq_true, Bool.and_eq_true] at h
  exact ⟨h.1, h.2.1⟩
theorem bnd1 {n : Nat} {a : D} (h : Ds.bnd n [a] = true) : D.bnd n a = true := by
  rw [bnd_cons, Bool.and_eq_true] at h
  exact h.1
theorem mapB {α : Type} {M : Store} (hM : StB M) {o : Option α} {f : α → D} (h : ∀ a, D.bnd M.length (f a) = true) : POB M.length (o.map fun a => .v (f a) M) := by
  cases o with
  | none => trivial
  | some a => exact vB hM (h a)
theorem rep_mem {α : Type} {k : Nat} {xs : List α} : ∀ y ∈ (List.replicate k xs).flatten, y ∈ xs := fun y hy => by
  obtain ⟨l, h1, h2⟩ := List.mem_flatten.mp hy
  rw [List.eq_of_mem_replicate h1] at h2
  exact h2
set_option maxHeartbeats 40000000 in
theorem primB {p : Pr} {ds : List D} {M : Store} (hM : StB M) (hd : Ds.bnd M.length ds = true) : POB M.length (prim p ds M) := by
  have app : ∀ {xs ys : List D}, Ds.bnd M.length xs = true → Ds.bnd M.length ys = true → Ds.bnd M.length (xs ++ ys) = true := fun h1 h2 => by rw [bnd_app, h1, h2]; rfl
  cases p with
  | add =>
    show POB _ (pAdd ds M)
    unfold pAdd
    split
    · exact vB hM rfl
    · split <;> first | exact vB hM rfl | trivial
    · have := bnd2 hd; split <;> first | exact vB hM (app this.1 this.2) | trivial
    · have := bnd2 hd; split <;> first | exact vB hM (app this.1 this.2) | trivial
    · have := bnd2 hd; split <;> first | exact vB hM (app this.1 this.2) | trivial
    · have := bnd2 hd
      split
      · rename_i h1 h2
        split
        · exact app (viewH_bd hM this.1 h1) (viewH_bd hM this.2 h2)
        · trivial
      · trivial
    · trivial
  | sub => show POB _ (pSub ds M); unfold pSub; split <;> first | exact vB hM rfl | trivial
  | mul =>
    show POB _ (pMul ds M)
    unfold pMul
    split
    · split <;> first | exact vB hM rfl | trivial
    · have := bnd2 hd; split <;> first | exact vB hM (Ds_sub (n := M.length) this.1 rep_mem) | trivial
    · split <;> first | exact vB hM rfl | trivial
    · have := bnd2 hd
      split
      · rename_i h1
        split
        · exact Ds_sub (viewH_bd hM this.1 h1) rep_mem
        · trivial
      · trivial
    · trivial
  | fdiv => show POB _ (pFdiv ds M); unfold pFdiv; (repeat' split) <;> first | exact vB hM rfl | trivial
  | mod => show POB _ (pMod ds M); unfold pMod; (repeat' split) <;> first | exact vB hM rfl | trivial
  | pow => show POB _ (pPow ds M); unfold pPow; (repeat' split) <;> first | exact vB hM rfl | trivial
  | shr => show POB _ (pShr ds M); unfold pShr; (repeat' split) <;> first | exact vB hM rfl | trivial
  | band => show POB _ (pBand ds M); unfold pBand; (repeat' split) <;> first | exact vB hM rfl | trivial
  | bxor => show POB _ (pBxor ds M); unfold pBxor; (repeat' split) <;> first | exact vB hM rfl | trivial
  | neg => show POB _ (pNeg ds M); unfold pNeg; (repeat' split) <;> first | exact vB hM rfl | trivial
  | eq => show POB _ (pEq ds M); unfold pEq; split <;> first | exact mapB hM (fun _ => rfl) | trivial
  | ne => show POB _ (pNe ds M); unfold pNe; split <;> first | exact mapB hM (fun _ => rfl) | trivial
  | lt => show POB _ (pLt ds M); unfold pLt; (repeat' split) <;> first | exact vB hM rfl | trivial
  | le => show POB _ (pLe ds M); unfold pLe; (repeat' split) <;> first | exact vB hM rfl | trivial
  | gt => show POB _ (pGt ds M); unfold pGt; (repeat' split) <;> first | exact vB hM rfl | trivial
  | ge => show POB _ (pGe ds M); unfold pGe; (repeat' split) <;> first | exact vB hM rfl | trivial
  | is => show POB _ (pIs ds M); unfold pIs; (repeat' split) <;> first | exact vB hM rfl | trivial
  | isNot => show POB _ (pIsNot ds M); unfold pIsNot; (repeat' split) <;> first | exact vB hM rfl | trivial
  | in_ => show POB _ (pIn ds M); unfold pIn; split <;> first | exact mapB hM (fun _ => rfl) | trivial
  | notIn => show POB _ (pNotIn ds M); unfold pNotIn; split <;> first | exact mapB hM (fun _ => rfl) | trivial
  | ix =>
    show POB _ (pIx ds M)
    unfold pIx
    split
    · (repeat' split) <;> first | exact vB hM rfl | trivial
    · have := bnd2 hd
      split
      · rename_i h1
        exact ixLB hM (viewS_bd hM this.1 h1)
      · trivial
    · trivial
  | dix =>
    show POB _ (pDix ds M)
    unfold pDix
    split
    · split
      · rename_i h; exact vB hM (getD_bd hM h)
      · trivial
    · trivial
  | din => show POB _ (pDin ds M); unfold pDin; (repeat' split) <;> first | exact vB hM rfl | trivial
  | dnotIn => show POB _ (pDnotIn ds M); unfold pDnotIn; (repeat' split) <;> first | exact vB hM rfl | trivial
  | eqz => show POB _ (pEqz ds M); unfold pEqz; (repeat' split) <;> first | exact mapB hM (fun _ => rfl) | exact vB hM rfl | trivial
  | sl00 => show POB _ (pSl00 ds M); unfold pSl00; split <;> first | exact sliceB hM (bnd1 hd) | trivial
  | sl01 => show POB _ (pSl01 ds M); unfold pSl01; split <;> first | exact sliceB hM (bnd2 hd).1 | trivial
  | sl10 => show POB _ (pSl10 ds M); unfold pSl10; split <;> first | exact sliceB hM (bnd2 hd).1 | trivial
  | len => show POB _ (pLen ds M); unfold pLen; split <;> first | exact mapB hM (fun _ => rfl) | trivial
  | int_ => show POB _ (pInt ds M); unfold pInt; (repeat' split) <;> first | exact vB hM rfl | trivial
  | list_ =>
    show POB _ (pList ds M)
    unfold pList
    split
    · rename_i a
      cases q : viewS M a with
      | none => trivial
      | some xs => exact viewS_bd hM (bnd1 hd) q
    · trivial
  | tuple_ =>
    show POB _ (pTuple ds M)
    unfold pTuple
    split
    · exact vB hM (bnd1 hd)
    · rename_i a _
      cases q : viewS M a with
      | none => trivial
      | some xs => exact vB hM (viewS_bd hM (bnd1 hd) q)
    · trivial
  | min2 => show POB _ (pMin ds M); unfold pMin; (repeat' split) <;> first | exact vB hM rfl | trivial
  | max2 => show POB _ (pMax ds M); unfold pMax; (repeat' split) <;> first | exact vB hM rfl | trivial
  | ord => show POB _ (pOrd ds M); unfold pOrd; (repeat' split) <;> first | exact vB hM rfl | trivial
  | str_ => show POB _ (pStr ds M); unfold pStr; (repeat' split) <;> first | exact vB hM rfl | trivial
  | isinst t => show POB _ (pIsinst t ds M); unfold pIsinst; split <;> first | exact mapB hM (fun _ => rfl) | trivial
  | append =>
    show POB _ (pAppend ds M)
    unfold pAppend
    split
    · have := bnd2 hd
      split
      · rename_i h
        split
        · exact ⟨by simp, stb_set _ hM (app (hM.lst h) (by rw [bnd_cons, this.2]; rfl)), rfl⟩
        · trivial
      · trivial
    · trivial
  | extend =>
    show POB _ (pExtend ds M)
    unfold pExtend
    split
    · have := bnd2 hd
      split
      · rename_i h h2
        split
        · exact ⟨by simp, stb_set _ hM (app (hM.lst h) (viewE_bd hM this.2 h2)), rfl⟩
        · trivial
      · trivial
    · trivial
  | get1 =>
    show POB _ (pGet1 ds M)
    unfold pGet1
    split
    · split
      · rename_i r h
        cases r with
        | none => exact vB hM rfl
        | some y => exact vB hM (getD_bd hM h)
      · trivial
    · trivial
  | get2 =>
    show POB _ (pGet2 ds M)
    unfold pGet2
    split
    · split
      · rename_i r h
        cases r with
        | none =>
          refine vB hM ?_
          rw [bnd_cons, Bool.and_eq_true] at hd
          exact (bnd2 hd.2).2
        | some y => exact vB hM (getD_bd hM h)
      · trivial
    · trivial
  | index => show POB _ (pIndex ds M); unfold pIndex; (repeat' split) <;> first | exact vB hM rfl | trivial
  | count => show POB _ (pCount ds M); unfold pCount; (repeat' split) <;> first | exact vB hM rfl | trivial
  | pop0 => trivial
  | sort2 =>
    show POB _ (pSort2 ds M)
    unfold pSort2
    split
    · split
      · split
        · split
          · exact (rfl : Ds.bnd _ [D.str _, D.str _] = true)
          · exact (rfl : Ds.bnd _ [D.str _, D.str _] = true)
        · trivial
      · trivial
    · trivial
  | lrev =>
    show POB _ (pLrev ds M)
    unfold pLrev
    split
    · rename_i a
      cases q : viewL M a with
      | none => trivial
      | some xs => exact Ds_sub (viewL_bd hM (bnd1 hd) q) fun y hy => List.mem_reverse.mp hy
    · trivial
def ItB (it : Items) (n : Nat) : Prop := Ds.bnd n it.xs = true
theorem rngLB {i : Int} {k : Nat} {c : Int} {n : Nat} : Ds.bnd n (rngL i k c) = true := Ds_of fun x hx => by
  obtain ⟨j, _, rfl⟩ := List.mem_map.mp hx
  rfl
theorem itemsB {k : Ik} {ds : List D} {M : Store} {n : Nat} (h1 : n ≤ M.length) (hM : StB M) (hd : Ds.bnd M.length ds = true) : RsB n ItB (itemsR k ds M) := by
  unfold itemsR
  cases q : items k ds M with
  | none => trivial
  | some it =>
    refine ⟨h1, hM, ?_⟩
    unfold items at q
    split at q
    · split at q
      · cases q
        refine Ds_of fun x hx => ?_
        obtain ⟨j, _, rfl⟩ := List.mem_map.mp hx
        rfl
      · cases q
    · rename_i d _
      rw [Option.map_eq_some_iff] at q
      obtain ⟨xs, q1, rfl⟩ := q
      exact viewS_bd hM (bnd1 hd) q1
    · split at q <;> cases q; exact rngLB
    · split at q <;> cases q; exact rngLB
    · split at q <;> cases q; exact rngLB
    · rename_i d
      rw [Option.map_eq_some_iff] at q
      obtain ⟨xs, q1, rfl⟩ := q
      refine Ds_of fun x hx => ?_
      obtain ⟨p, hp, rfl⟩ := List.mem_map.mp hx
      have := Ds_mem (viewS_bd hM (bnd1 hd) q1) (List.fst_mem_of_mem_zipIdx hp)
      rw [bnd_dtup, bnd_cons, bnd_cons, this]
      rfl
    · rename_i d
      rw [Option.map_eq_some_iff] at q
      obtain ⟨xs, q1, rfl⟩ := q
      exact Ds_sub (viewL_bd hM (bnd1 hd) q1) fun y hy => List.mem_reverse.mp hy
    · split at q
      · cases q
        refine Ds_of fun x hx => ?_
        obtain ⟨p, hp, rfl⟩ := List.mem_map.mp hx
        have hm := List.fst_mem_of_mem_zipIdx hp
        obtain ⟨c, _, e⟩ := List.mem_map.mp hm
        rw [bnd_dtup, bnd_cons, bnd_cons, ← e]
        rfl
      · cases q
    · cases q
      refine Ds_of fun x hx => ?_
      obtain ⟨k, _, rfl⟩ := List.mem_map.mp hx
      rfl
    · cases q
def CtrB (C : Ctr) : Prop := ∀ ds M, StB M → Ds.bnd M.length ds = true → RsB M.length DB (C ds M)
structure EvB (v : Ev) (n : Nat) : Prop where
  fn : ∀ f, CtrB (v.fn f)
  cx : ∀ x j, v.cx = some (x, j) → Fs.bnd n x.fs = true
theorem EvB.mono {v : Ev} {n m : Nat} (h : EvB v n) (hn : n ≤ m) : EvB v m := ⟨h.fn, fun x j e => Fs_mono hn (h.cx x j e)⟩
theorem compLB {g : Option (Nat × List D)} {f : D → Store → Rs (List D)} : ∀ (xs : List D) (M : Store), StB M → Ds.bnd M.length xs = true → (∀ x ∈ xs, ∀ M', M.length ≤ M'.length → StB M' → D.bnd M'.length x = true → RsB M'.length DsB (f x M')) → RsB M.length DsB (compL g f xs M)
  | [], M, hM, _, _ => by
    unfold compL
    split
    · exact ⟨Nat.le_refl _, hM, rfl⟩
    · trivial
  | x :: xs, M, hM, hx, hf => by
    rw [bnd_cons, Bool.and_eq_true] at hx
    unfold compL
    split
    · refine RsB.bnd (hf x List.mem_cons_self M (Nat.le_refl _) hM hx.1) fun ys M1 l1 s1 b1 => ?_
      refine (RsB.bnd (n := M1.length) (compLB xs M1 s1 (Ds.bnd_mono l1 _ hx.2) fun y hy M' l' => hf y (List.mem_cons_of_mem _ hy) M' (Nat.le_trans l1 l')) fun zs M2 l2 s2 b2 => ?_).le l1
      exact ⟨l2, s2, by show Ds.bnd _ _ = true; rw [bnd_app, b2, Ds.bnd_mono l2 _ b1]; rfl⟩
    · trivial
/-! ### the language -/
mutual
def E.ok (j : Nat) : E → Bool
  | .var _ => true
  | .lit d => D.bnd 0 d
  | .glb _ d => D.bnd 0 d
  | .op _ _ es => es.ok j
  | .tup es => es.ok j
  | .lst _ es => es.ok j
  | .andE a b => a.ok j && b.ok j
  | .orE a b => a.ok j && b.ok j
  | .notE a => a.ok j
  | .ite c a b => c.ok j && (a.ok j && b.ok j)
  | .meth _ _ o es => o.ok j && es.ok j
  | .call f es => decide (f < j) && es.ok j
  | .mcall _ f _ o es => decide (f < j) && (o.ok j && es.ok j)
  | .prop _ f o => decide (f < j) && o.ok j
  | .make _ f es => decide (f < j) && es.ok j
  | .sl3 _ a b c => a.ok j && (b.ok j && c.ok j)
  | .fld _ e _ => e.ok j
  | .xfld _ _ => true
  | .xis _ _ => true
  | .tab _ _ kvs e d => (kvs.all fun p => D.bnd 0 p.2) && (e.ok j && d.ok j)
  | .chain _ _ a b c => a.ok j && (b.ok j && c.ok j)
  | .frz e => e.ok j
  | .newD _ => true
  | .disp es => es.ok j
  | .comp _ _ elt t _ es ifs => elt.ok j && (t.ok j && (es.ok j && ifs.ok j))
  | .dcomp _ kx vx t _ es ifs => kx.ok j && (vx.ok j && (t.ok j && (es.ok j && ifs.ok j)))
  | .comp2 _ _ elt t _ es t2 _ es2 => elt.ok j && (t.ok j && (es.ok j && (t2.ok j && es2.ok j)))
def Es.ok (j : Nat) : Es → Bool
  | .nil => true
  | .cons e es => e.ok j && es.ok j
def Tg.ok (j : Nat) : Tg → Bool
  | .nm _ => true
  | .tup ts => ts.ok j
  | .sub o i => o.ok j && i.ok j
  | .dsub o i => o.ok j && i.ok j
  | .att _ o _ => o.ok j
  | .slc o a b => o.ok j && (a.ok j && b.ok j)
def Tgs.ok (j : Nat) : Tgs → Bool
  | .nil => true
  | .cons t ts => t.ok j && ts.ok j
end
mutual
def S.ok (j : Nat) : S → Bool
  | .exp e => e.ok j
  | .asg t e => t.ok j && e.ok j
  | .par _ _ a b => a.ok j && b.ok j
  | .ret e => e.ok j
  | .retN => true
  | .pass => true
  | .hole => true
  | .brk => true
  | .cont => true
  | .ifS c a b => c.ok j && (a.ok j && b.ok j)
  | .forS t _ es b _ => t.ok j && (es.ok j && b.ok j)
  | .whl _ c b _ => c.ok j && b.ok j
  | .raise _ _ es => es.ok j
  | .tryS b hs => b.ok j && hs.ok j
  | .kil s _ => s.ok j
def Ss.ok (j : Nat) : Ss → Bool
  | .nil => true
  | .cons s r => s.ok j && r.ok j
def Hs.ok (j : Nat) : Hs → Bool
  | .nil => true
  | .cons _ _ b r => b.ok j && r.ok j
end
theorem and2 {a b : Bool} (h : (a && b) = true) : a = true ∧ b = true := by
  rw [Bool.and_eq_true] at h; exact h
theorem prs_bd {n : Nat} : ∀ {ds : List D} {kvs : List (Key × D)}, Ds.bnd n ds = true → prsK ds = some kvs → ∀ p ∈ kvs, D.bnd n p.2 = true
  | [], kvs, _, e, p, hp => by cases e; cases hp
  | [_], kvs, _, e, p, hp => by cases e
  | k :: v :: r, kvs, hb, e, p, hp => by
    rw [bnd_cons, bnd_cons, Bool.and_eq_true, Bool.and_eq_true] at hb
    unfold prsK at e
    cases e2 : keyD k with
    | none => rw [e2] at e; cases e
    | some k' =>
      cases e3 : prsK r with
      | none => rw [e2, e3] at e; cases e
      | some r' =>
        rw [e2, e3] at e
        cases e
        rcases List.mem_cons.mp hp with rfl | hp
        · exact hb.2.1
        · exact prs_bd hb.2.2 e3 p hp
def FB {α : Type} (p : α → Nat → Prop) (v : Ev) (f : Sl → Store → Rs α) : Prop := ∀ δ M, EvB v M.length → SlB δ M.length → StB M → RsB M.length p (f δ M)
theorem FB.le {α : Type} {p : α → Nat → Prop} {v : Ev} {f : Sl → Store → Rs α} (h : FB p v f) {n : Nat} {δ : Sl} {M : Store} (hn : n ≤ M.length) (hv : EvB v n) (hd : SlB δ n) (hM : StB M) : RsB n p (f δ M) :=
  (h δ M (hv.mono hn) (hd.mono hn) hM).le hn
mutual
theorem E.bd {v : Ev} {j : Nat} : ∀ (e : E), e.ok j = true → FB DB v (evE v e)
  | .var i, h, δ, M, hv, hd, hM => by
    rw [evE_var]
    split
    · rename_i d q
      split
      · trivial
      · exact ⟨Nat.le_refl _, hM, hd i d q⟩
    · trivial
  | .lit d, h, δ, M, hv, hd, hM => by
    rw [evE_lit]
    exact ⟨Nat.le_refl _, hM, D.bnd_mono (Nat.zero_le _) d (by unfold E.ok at h; exact h)⟩
  | .glb x d, h, δ, M, hv, hd, hM => by
    rw [evE_glb]
    exact ⟨Nat.le_refl _, hM, D.bnd_mono (Nat.zero_le _) d (by unfold E.ok at h; exact h)⟩
  | .op p m es, h, δ, M, hv, hd, hM => by
    unfold E.ok at h
    rw [evE_op]
    exact (Es.bd es h δ M hv hd hM).bnd fun ds M1 l1 s1 b1 => poB l1 s1 (primB s1 b1)
  | .tup es, h, δ, M, hv, hd, hM => by
    unfold E.ok at h
    rw [evE_tup]
    refine (Es.bd es h δ M hv hd hM).bnd fun ds M1 l1 s1 b1 => ?_
    unfold kTup
    split
    · exact ⟨l1, s1, b1⟩
    · trivial
  | .lst m es, h, δ, M, hv, hd, hM => by
    unfold E.ok at h
    rw [evE_lst]
    refine (Es.bd es h δ M hv hd hM).bnd fun ds M1 l1 s1 b1 => ?_
    unfold kLst
    split
    · exact mkB l1 s1 b1
    · trivial
  | .andE a b, h, δ, M, hv, hd, hM => by
    unfold E.ok at h
    obtain ⟨h1, h2⟩ := and2 h
    rw [evE_and]
    refine (E.bd a h1 δ M hv hd hM).bnd fun d M1 l1 s1 b1 => ?_
    rw [kAnd_eq, tAnd_fn]
    split
    · exact (E.bd b h2).le l1 hv hd s1
    · exact ⟨l1, s1, b1⟩
    · trivial
  | .orE a b, h, δ, M, hv, hd, hM => by
    unfold E.ok at h
    obtain ⟨h1, h2⟩ := and2 h
    rw [evE_or]
    refine (E.bd a h1 δ M hv hd hM).bnd fun d M1 l1 s1 b1 => ?_
    unfold kOr tOr
    split
    · exact ⟨l1, s1, b1⟩
    · exact (E.bd b h2).le l1 hv hd s1
    · trivial
  | .notE a, h, δ, M, hv, hd, hM => by
    unfold E.ok at h
    rw [evE_not]
    refine (E.bd a h δ M hv hd hM).bnd fun d M1 l1 s1 b1 => ?_
    unfold kNot tNot
    split
    · exact ⟨l1, s1, rfl⟩
    · trivial
  | .ite c a b, h, δ, M, hv, hd, hM => by
    unfold E.ok at h
    obtain ⟨h1, h⟩ := and2 h
    obtain ⟨h2, h3⟩ := and2 h
    rw [evE_ite]
    refine (E.bd c h1 δ M hv hd hM).bnd fun d M1 l1 s1 b1 => ?_
    unfold kIte tIte
    split
    · exact (E.bd a h2).le l1 hv hd s1
    · exact (E.bd b h3).le l1 hv hd s1
    · trivial
  | .meth p m o es, h, δ, M, hv, hd, hM => by
    unfold E.ok at h
    obtain ⟨h1, h2⟩ := and2 h
    rw [evE_meth]
    refine (E.bd o h1 δ M hv hd hM).bnd fun d M1 l1 s1 b1 => ?_
    unfold kMeth
    split
    · refine (RsB.bnd (n := M1.length) (Es.bd es h2 δ M1 (hv.mono l1) (hd.mono l1) s1) fun ds M2 l2 s2 b2 => ?_).le l1
      exact poB l2 s2 (primB s2 (by rw [bnd_cons, D.bnd_mono l2 _ b1, b2]; rfl))
    · trivial
  | .call f es, h, δ, M, hv, hd, hM => by
    unfold E.ok at h
    obtain ⟨h1, h2⟩ := and2 h
    rw [evE_call]
    exact (Es.bd es h2 δ M hv hd hM).bnd fun ds M1 l1 s1 b1 => (hv.fn f ds M1 s1 b1).le l1
  | .mcall c f m o es, h, δ, M, hv, hd, hM => by
    unfold E.ok at h
    obtain ⟨_, h⟩ := and2 h
    obtain ⟨h1, h2⟩ := and2 h
    rw [evE_mcall]
    refine (E.bd o h1 δ M hv hd hM).bnd fun d M1 l1 s1 b1 => ?_
    unfold kMcall
    split
    · unfold tMcall
      split
      · split
        · refine (RsB.bnd (n := M1.length) (Es.bd es h2 δ M1 (hv.mono l1) (hd.mono l1) s1) fun ds M2 l2 s2 b2 => ?_).le l1
          exact (hv.fn f _ M2 s2 (by rw [bnd_cons, D.bnd_mono l2 _ b1, b2]; rfl)).le l2
        · trivial
      · trivial
    · trivial
  | .prop c f o, h, δ, M, hv, hd, hM => by
    unfold E.ok at h
    obtain ⟨_, h⟩ := and2 h
    rw [evE_prop]
    refine (E.bd o h δ M hv hd hM).bnd fun d M1 l1 s1 b1 => ?_
    unfold kProp
    split
    · unfold tProp
      split
      · split
        · exact ((hv.fn f _ M1 s1 (by rw [bnd_cons, b1]; rfl)).le l1).nox
        · trivial
      · trivial
    · trivial
  | .make c f es, h, δ, M, hv, hd, hM => by
    unfold E.ok at h
    obtain ⟨_, h⟩ := and2 h
    rw [evE_make]
    refine (Es.bd es h δ M hv hd hM).bnd fun ds M1 l1 s1 b1 => ?_
    unfold kMake
    have sb : StB (M1 ++ [.ins c []]) := stb_new s1 rfl
    have hl : (M1 ++ [Ob.ins c []]).length = M1.length + 1 := by simp
    refine ((hv.fn f (.oid M1.length :: ds) _ sb ?_).bnd fun d M2 l2 s2 b2 => ?_).le (Nat.le_trans l1 (by rw [hl]; omega))
    · rw [bnd_cons, bnd_doid, hl, Ds.bnd_mono (Nat.le_succ _) _ b1]
      simp
    · unfold kMake2
      split
      · exact ⟨l2, s2, by show decide _ = true; rw [decide_eq_true_eq]; omega⟩
      · trivial
  | .sl3 m a b c, h, δ, M, hv, hd, hM => by
    unfold E.ok at h
    obtain ⟨h1, h⟩ := and2 h
    obtain ⟨h2, h3⟩ := and2 h
    rw [evE_sl3]
    refine (E.bd a h1 δ M hv hd hM).bnd fun d M1 l1 s1 b1 => ?_
    unfold kSl3
    refine (RsB.bnd (n := M1.length) (E.bd b h2 δ M1 (hv.mono l1) (hd.mono l1) s1) fun d2 M2 l2 s2 b2 => ?_).le l1
    unfold kSl3b
    split
    · refine (RsB.bnd (n := M2.length) (E.bd c h3 δ M2 (hv.mono (Nat.le_trans l1 l2)) (hd.mono (Nat.le_trans l1 l2)) s2) fun d3 M3 l3 s3 b3 => ?_).le l2
      unfold kSl3c
      split
      · exact poB l3 s3 (sliceB s3 (D.bnd_mono (Nat.le_trans l2 l3) _ b1))
      · trivial
    · trivial
  | .fld c e f, h, δ, M, hv, hd, hM => by
    unfold E.ok at h
    rw [evE_fld]
    refine (E.bd e h δ M hv hd hM).bnd fun d M1 l1 s1 b1 => ?_
    unfold kFld
    split
    · unfold tFld
      split
      · rename_i hn
        split
        · unfold tFld2
          split
          · rename_i y hy
            exact ⟨l1, s1, s1.fld hn hy⟩
          · trivial
        · trivial
      · trivial
    · trivial
  | .tab q x kvs e d, h, δ, M, hv, hd, hM => by
    unfold E.ok at h
    obtain ⟨h1, h⟩ := and2 h
    obtain ⟨h2, h3⟩ := and2 h
    rw [evE_tab]
    refine (E.bd e h2 δ M hv hd hM).bnd fun k M1 l1 s1 b1 => ?_
    have key : ∀ (y : D) (M2 : Store), M.length ≤ M2.length → StB M2 → D.bnd M2.length y = true → RsB M.length DB (tabR q kvs k y M2) := fun y M2 l2 s2 b2 => by
      unfold tabR
      split
      · rename_i z _
        have hb : ∀ d, lookT kvs z = some d → D.bnd M2.length d = true := fun d hd => by
          unfold lookT at hd
          obtain ⟨p, hp, rfl⟩ := Option.map_eq_some_iff.mp hd
          exact D.bnd_mono (Nat.zero_le _) _ (List.all_eq_true.mp h1 _ (List.mem_of_find?_eq_some hp))
        split
        · exact ⟨l2, s2, rfl⟩
        · exact ⟨l2, s2, rfl⟩
        · split
          · rename_i d hd
            exact ⟨l2, s2, hb d hd⟩
          · trivial
        · refine ⟨l2, s2, ?_⟩
          cases c : lookT kvs z with
          | none => rfl
          | some d => exact hb d c
        · refine ⟨l2, s2, ?_⟩
          cases c : lookT kvs z with
          | none => exact b2
          | some d => exact hb d c
      · trivial
    unfold kTab
    split
    · refine (RsB.bnd (n := M1.length) (E.bd d h3 δ M1 (hv.mono l1) (hd.mono l1) s1) fun y M2 l2 s2 b2 => ?_).le l1
      have r := key y M2 (Nat.le_trans l1 l2) s2 b2
      unfold kTab2
      cases e0 : tabR q kvs k y M2 with
      | none => trivial
      | some o =>
        rw [e0] at r
        cases o with
        | ok a M3 =>
          obtain ⟨_, r2, r3⟩ := r
          have eM : M3 = M2 := by
            unfold tabR at e0
            split at e0
            · split at e0 <;> first | (cases e0; rfl) | (split at e0 <;> first | (cases e0; rfl) | cases e0)
            · cases e0
          subst eM
          exact ⟨l2, r2, r3⟩
        | exc x M3 =>
          unfold tabR at e0
          split at e0
          · split at e0 <;> first | cases e0 | (split at e0 <;> cases e0)
          · cases e0
    · exact key .non M1 l1 s1 rfl
  | .xis i hh, h, δ, M, hv, hd, hM => by
    rw [evE_xis]
    split
    · split
      · exact ⟨Nat.le_refl _, hM, rfl⟩
      · trivial
    · trivial
  | .xfld i f, h, δ, M, hv, hd, hM => by
    rw [evE_xfld]
    split
    · rename_i x j _ hx
      split
      · split
        · rename_i y hy
          refine ⟨Nat.le_refl _, hM, ?_⟩
          have := hv.cx _ _ hx
          unfold Fs.bnd at this
          rw [List.all_eq_true] at this
          exact this _ (mem_lookupN hy)
        · trivial
      · trivial
    · trivial
  | .chain p q a b c, h, δ, M, hv, hd, hM => by
    unfold E.ok at h
    obtain ⟨h1, h⟩ := and2 h
    obtain ⟨h2, h3⟩ := and2 h
    rw [evE_chain]
    refine (E.bd a h1 δ M hv hd hM).bnd fun d1 M1 l1 s1 b1 => ?_
    unfold kChn
    refine (RsB.bnd (n := M1.length) (E.bd b h2 δ M1 (hv.mono l1) (hd.mono l1) s1) fun d2 M2 l2 s2 b2 => ?_).le l1
    unfold kChn2
    have P := primB (p := p) (ds := [d1, d2]) s2 (by rw [bnd_cons, bnd_cons, D.bnd_mono l2 _ b1, b2]; rfl)
    unfold tChn
    split
    · rename_i M3 e
      rw [e] at P
      refine (RsB.bnd (n := M3.length) (E.bd c h3 δ M3 (hv.mono (by have := P.1; omega)) (hd.mono (by have := P.1; omega)) P.2.1) fun d3 M4 l4 s4 b4 => ?_).le (Nat.le_trans l2 P.1)
      unfold kChn3
      have Q := primB (p := q) (ds := [d2, d3]) s4 (by rw [bnd_cons, bnd_cons, D.bnd_mono (Nat.le_trans P.1 l4) _ b2, b4]; rfl)
      unfold tChn2
      split
      · rename_i e2
        rw [e2] at Q
        exact ⟨Nat.le_trans l4 Q.1, Q.2⟩
      · trivial
    · rename_i M3 e
      rw [e] at P
      exact ⟨Nat.le_trans l2 P.1, P.2.1, rfl⟩
    · trivial
  | .frz e, h, δ, M, hv, hd, hM => by
    unfold E.ok at h
    rw [evE_frz]
    refine (E.bd e h δ M hv hd hM).bnd fun d M1 l1 s1 b1 => ?_
    unfold kFrz
    split
    · unfold tFrz
      split
      · rename_i n xs hn
        exact ⟨by simp; exact l1, stb_set _ s1 rfl, by rw [List.length_set]; exact s1.lst hn⟩
      · trivial
    · trivial
  | .newD t, h, δ, M, hv, hd, hM => by
    rw [evE_newD]
    refine ⟨by simp, stb_new hM (by split <;> rfl), ?_⟩
    show decide _ = true
    simp
  | .disp es, h, δ, M, hv, hd, hM => by
    unfold E.ok at h
    rw [evE_disp]
    have hl : (M ++ [Ob.dk []]).length = M.length + 1 := by simp
    have sb : StB (M ++ [.dk []]) := stb_new hM rfl
    refine (RsB.bnd (Es.bd es h δ (M ++ [.dk []]) (hv.mono (by omega)) (hd.mono (by omega)) sb) fun ds M1 l1 s1 b1 => ?_).le (n := M.length) (by omega)
    unfold kDisp
    unfold tDisp2
    split
    · rename_i kvs hk hp2
      split
      · refine ⟨by rw [List.length_set]; exact l1, stb_set _ s1 ?_, by rw [List.length_set]; show decide _ = true; rw [decide_eq_true_eq]; omega⟩
        have hq := prs_bd b1 hp2
        have : ∀ (kvs as : List (Key × D)), (∀ p ∈ kvs, D.bnd M1.length p.2 = true) → (as.all fun p => D.bnd M1.length p.2) = true → ((kvs.foldl (fun a p => storeK a p.1 p.2) as).all fun p => D.bnd M1.length p.2) = true := by
          intro kvs
          induction kvs with
          | nil => exact fun as _ h => h
          | cons p r ih => exact fun as h1 h2 => ih (storeK as p.1 p.2) (fun q hq => h1 q (List.mem_cons_of_mem _ hq)) (storeK_bd h2 (h1 p List.mem_cons_self))
        exact this kvs [] hq rfl
      · trivial
    · trivial
  | .comp m own elt t k es ifs, h, δ, M, hv, hd, hM => by
    unfold E.ok at h
    obtain ⟨h1, h⟩ := and2 h
    obtain ⟨h2, h⟩ := and2 h
    obtain ⟨h3, h4⟩ := and2 h
    rw [evE_comp]
    refine RsB.bnd (p := ItB) ((Es.bd es h3 δ M hv hd hM).bnd fun ds M1 l1 s1 b1 => itemsB l1 s1 b1) fun it M1 l1 s1 b1 => ?_
    unfold kComp
    split
    · refine (RsB.bnd (n := M1.length) (compLB it.xs M1 s1 b1 fun x hx M2 l2 s2 b2 => ?_) fun zs M2 l2 s2 b2 => mkB l2 s2 b2).le l1
      rw [compB_eq]
      have l12 := Nat.le_trans l1 l2
      refine RsB.nox ((Tg.bd t h2 x (Mo.kill δ (own.map (·.2))) M2 (hv.mono l12) ((hd.mono l12).kill _) s2 b2).bnd fun δ' M3 l3 s3 b3 => ?_)
      rw [kIf2_eq]
      refine (RsB.bnd (n := M3.length) (Es.bdI ifs h4 δ' M3 (hv.mono (Nat.le_trans l12 l3)) b3 s3) fun b M4 l4 s4 _ => ?_).le l3
      unfold kElt
      split
      · refine (RsB.bnd (n := M4.length) (E.bd elt h1 δ' M4 (hv.mono (by omega)) (b3.mono l4) s4) fun d M5 l5 s5 b5 => ?_).le l4
        exact ⟨l5, s5, by show Ds.bnd _ _ = true; rw [bnd_cons, b5]; rfl⟩
      · exact ⟨l4, s4, rfl⟩
    · trivial
  | .dcomp own kx vx t k es ifs, h, δ, M, hv, hd, hM => by
    unfold E.ok at h
    obtain ⟨h0, h⟩ := and2 h
    obtain ⟨h1, h⟩ := and2 h
    obtain ⟨h2, h⟩ := and2 h
    obtain ⟨h3, h4⟩ := and2 h
    rw [evE_dcomp]
    refine RsB.bnd (p := ItB) ((Es.bd es h3 δ M hv hd hM).bnd fun ds M1 l1 s1 b1 => itemsB l1 s1 b1) fun it M1 l1 s1 b1 => ?_
    unfold kDcomp
    split
    · have hl : (M1 ++ [Ob.dk []]).length = M1.length + 1 := by simp
      have sb : StB (M1 ++ [.dk []]) := stb_new s1 rfl
      refine (RsB.bnd (n := (M1 ++ [Ob.dk []]).length) (p := DsB) (compLB it.xs (M1 ++ [.dk []]) sb (Ds.bnd_mono (by omega) _ b1) fun x hx M2 l2 s2 b2 => ?_) fun zs M2 l2 s2 b2 => ?_).le (by omega)
      · rw [dcompB_eq]
        have l12 : M.length ≤ M2.length := by omega
        refine RsB.nox ((Tg.bd t h2 x (Mo.kill δ (own.map (·.2))) M2 (hv.mono l12) ((hd.mono l12).kill _) s2 b2).bnd fun δ' M3 l3 s3 b3 => ?_)
        rw [kDIf_eq]
        refine (RsB.bnd (n := M3.length) (Es.bdI ifs h4 δ' M3 (hv.mono (Nat.le_trans l12 l3)) b3 s3) fun b M4 l4 s4 _ => ?_).le l3
        unfold kDElt
        split
        · refine (RsB.bnd (n := M4.length) (E.bd kx h0 δ' M4 (hv.mono (by omega)) (b3.mono l4) s4) fun kd M5 l5 s5 b5 => ?_).le l4
          rw [kDVal_eq]
          refine (RsB.bnd (n := M5.length) (E.bd vx h1 δ' M5 (hv.mono (by omega)) (b3.mono (Nat.le_trans l4 l5)) s5) fun d M6 l6 s6 b6 => ?_).le l5
          unfold kDPut putR
          split
          · rename_i M7 hM7
            unfold setK at hM7
            split at hM7
            · obtain ⟨e1, e2⟩ := setD_bd s6 b6 hM7
              exact ⟨by omega, e2, rfl⟩
            · cases hM7
          · trivial
        · exact ⟨l4, s4, rfl⟩
      · refine ⟨l2, s2, ?_⟩
        show decide _ = true
        rw [decide_eq_true_eq]
        omega
    · trivial
  | .comp2 m own elt t k es t2 k2 es2, h, δ, M, hv, hd, hM => by
    unfold E.ok at h
    obtain ⟨h1, h⟩ := and2 h
    obtain ⟨h2, h⟩ := and2 h
    obtain ⟨h3, h⟩ := and2 h
    obtain ⟨h4, h5⟩ := and2 h
    rw [evE_comp2]
    refine RsB.bnd (p := ItB) ((Es.bd es h3 δ M hv hd hM).bnd fun ds M1 l1 s1 b1 => itemsB l1 s1 b1) fun it M1 l1 s1 b1 => ?_
    unfold kComp2
    split
    · refine (RsB.bnd (n := M1.length) (compLB it.xs M1 s1 b1 fun x hx M2 l2 s2 b2 => ?_) fun zs M2 l2 s2 b2 => mkB l2 s2 b2).le l1
      rw [comp2A_eq]
      have l12 := Nat.le_trans l1 l2
      refine RsB.nox ((Tg.bd t h2 x (Mo.kill δ (own.map (·.2))) M2 (hv.mono l12) ((hd.mono l12).kill _) s2 b2).bnd fun δ' M3 l3 s3 b3 => ?_)
      rw [kC2_eq]
      have l13 := Nat.le_trans l12 l3
      refine (RsB.bnd (n := M3.length) (p := ItB) ((Es.bd es2 h5 δ' M3 (hv.mono l13) b3 s3).bnd fun ds M4 l4 s4 b4 => itemsB l4 s4 b4) fun it2 M4 l4 s4 b4 => ?_).le l3
      unfold kC3
      split
      · refine (compLB it2.xs M4 s4 b4 fun y hy M5 l5 s5 b5 => ?_).le l4
        rw [comp2B_eq]
        refine (Tg.bd t2 h4 y (Mo.kill δ' t2.slots) M5 (hv.mono (by omega)) ((b3.mono (by omega)).kill _) s5 b5).bnd fun δ'' M6 l6 s6 b6 => ?_
        rw [kElt2_eq]
        refine (RsB.bnd (n := M6.length) (E.bd elt h1 δ'' M6 (hv.mono (by omega)) b6 s6) fun d M7 l7 s7 b7 => ?_).le l6
        exact ⟨l7, s7, by show Ds.bnd _ _ = true; rw [bnd_cons, b7]; rfl⟩
      · trivial
    · trivial
theorem Es.bd {v : Ev} {j : Nat} : ∀ (es : Es), es.ok j = true → FB DsB v (evEs v es)
  | .nil, h, δ, M, hv, hd, hM => by
    rw [evEs_nil]
    exact ⟨Nat.le_refl _, hM, rfl⟩
  | .cons e es, h, δ, M, hv, hd, hM => by
    unfold Es.ok at h
    obtain ⟨h1, h2⟩ := and2 h
    rw [evEs_cons]
    refine (E.bd e h1 δ M hv hd hM).bnd fun d M1 l1 s1 b1 => ?_
    rw [kCns_eq]
    refine (RsB.bnd (n := M1.length) (Es.bd es h2 δ M1 (hv.mono l1) (hd.mono l1) s1) fun ds M2 l2 s2 b2 => ?_).le l1
    exact ⟨l2, s2, by show Ds.bnd _ _ = true; rw [bnd_cons, b2, D.bnd_mono l2 _ b1]; rfl⟩
theorem Es.bdI {v : Ev} {j : Nat} : ∀ (es : Es), es.ok j = true → FB (fun _ _ => True) v (evIfs v es)
  | .nil, h, δ, M, hv, hd, hM => by
    rw [evIfs_nil]
    exact ⟨Nat.le_refl _, hM, trivial⟩
  | .cons e es, h, δ, M, hv, hd, hM => by
    unfold Es.ok at h
    obtain ⟨h1, h2⟩ := and2 h
    rw [evIfs_cons]
    refine (E.bd e h1 δ M hv hd hM).bnd fun d M1 l1 s1 b1 => ?_
    unfold kIfs tIfs
    split
    · exact (Es.bdI es h2).le l1 hv hd s1
    · exact ⟨l1, s1, trivial⟩
    · trivial
theorem Tg.bd {v : Ev} {j : Nat} : ∀ (t : Tg), t.ok j = true → ∀ y δ M, EvB v M.length → SlB δ M.length → StB M → D.bnd M.length y = true → RsB M.length SlB (evTg v t y δ M)
  | .nm i, h, y, δ, M, hv, hd, hM, hy => by
    rw [evTg_nm]
    exact ⟨Nat.le_refl _, hM, hd.set i hy⟩
  | .tup ts, h, y, δ, M, hv, hd, hM, hy => by
    unfold Tg.ok at h
    rw [evTg_tup]
    unfold tTup
    split
    · rename_i xs q
      split
      · exact Tgs.bd ts h xs δ M hv hd hM (viewS_bd hM hy q)
      · trivial
    · trivial
  | .sub o i, h, y, δ, M, hv, hd, hM, hy => by
    unfold Tg.ok at h
    obtain ⟨h1, h2⟩ := and2 h
    rw [evTg_sub]
    refine (E.bd o h1 δ M hv hd hM).bnd fun d1 M1 l1 s1 b1 => ?_
    unfold kSub
    refine (RsB.bnd (n := M1.length) (E.bd i h2 δ M1 (hv.mono l1) (hd.mono l1) s1) fun d2 M2 l2 s2 b2 => ?_).le l1
    unfold kSub2
    split
    · unfold tSubb
      split
      · rename_i xs hn
        split
        · rename_i k _ _ _ _
          refine ⟨by rw [List.length_set]; exact l2, stb_set _ s2 ?_, by rw [List.length_set]; exact hd.mono (by omega)⟩
          refine Ds_of fun z hz => ?_
          rcases List.mem_or_eq_of_mem_set hz with hz | rfl
          · exact Ds_mem (s2.lst hn) hz
          · exact D.bnd_mono (by omega) _ hy
        · trivial
      · trivial
    · trivial
  | .dsub o i, h, y, δ, M, hv, hd, hM, hy => by
    unfold Tg.ok at h
    obtain ⟨h1, h2⟩ := and2 h
    rw [evTg_dsub]
    refine (E.bd o h1 δ M hv hd hM).bnd fun d1 M1 l1 s1 b1 => ?_
    unfold kDsub
    refine (RsB.bnd (n := M1.length) (E.bd i h2 δ M1 (hv.mono l1) (hd.mono l1) s1) fun d2 M2 l2 s2 b2 => ?_).le l1
    unfold kDsub2
    split
    · unfold tDsub
      split
      · rename_i M3 q
        obtain ⟨e1, e2⟩ := setD_bd s2 (D.bnd_mono (by omega) _ hy) q
        exact ⟨by omega, e2, by show SlB δ M3.length; rw [e1]; exact hd.mono (by omega)⟩
      · trivial
    · trivial
  | .att c o f, h, y, δ, M, hv, hd, hM, hy => by
    unfold Tg.ok at h
    rw [evTg_att]
    refine (E.bd o h δ M hv hd hM).bnd fun d M1 l1 s1 b1 => ?_
    unfold kAtt
    split
    · unfold tAtt
      split
      · rename_i hn
        split
        · exact ⟨by rw [List.length_set]; exact l1, stb_set _ s1 (setF_bd (D.bnd_mono l1 _ hy) (s1.at hn)), by rw [List.length_set]; exact hd.mono l1⟩
        · trivial
      · trivial
    · trivial
  | .slc o a b, h, y, δ, M, hv, hd, hM, hy => by
    unfold Tg.ok at h
    obtain ⟨h1, h⟩ := and2 h
    obtain ⟨h2, h3⟩ := and2 h
    rw [evTg_slc]
    refine (E.bd o h1 δ M hv hd hM).bnd fun d1 M1 l1 s1 b1 => ?_
    unfold kSlc
    refine (RsB.bnd (n := M1.length) (E.bd a h2 δ M1 (hv.mono l1) (hd.mono l1) s1) fun d2 M2 l2 s2 b2 => ?_).le l1
    unfold kSlc2
    split
    · refine (RsB.bnd (n := M2.length) (E.bd b h3 δ M2 (hv.mono (by omega)) (hd.mono (by omega)) s2) fun d3 M3 l3 s3 b3 => ?_).le l2
      unfold kSlc3
      split
      · unfold kSlc4
        split
        · rename_i hn hm
          split
          · refine ⟨by rw [List.length_set]; exact l3, stb_set _ s3 ?_, by rw [List.length_set]; exact hd.mono (by omega)⟩
            show Ds.bnd _ _ = true
            rw [bnd_app, bnd_app, s3.lst hm, Ds_sub (s3.lst hn) fun z hz => List.mem_of_mem_take hz, Ds_sub (s3.lst hn) fun z hz => List.mem_of_mem_drop hz]
            rfl
          · trivial
        · trivial
      · trivial
    · trivial
theorem Tgs.bd {v : Ev} {j : Nat} : ∀ (ts : Tgs), ts.ok j = true → ∀ xs δ M, EvB v M.length → SlB δ M.length → StB M → Ds.bnd M.length xs = true → RsB M.length SlB (evTgs v ts xs δ M)
  | .nil, h, xs, δ, M, hv, hd, hM, hx => by
    cases xs with
    | nil => rw [evTgs_nil]; exact ⟨Nat.le_refl _, hM, hd⟩
    | cons x r => simp only [evTgs]; trivial
  | .cons t ts, h, xs, δ, M, hv, hd, hM, hx => by
    unfold Tgs.ok at h
    obtain ⟨h1, h2⟩ := and2 h
    cases xs with
    | nil => simp only [evTgs]; trivial
    | cons x r =>
      rw [bnd_cons, Bool.and_eq_true] at hx
      rw [evTgs_cons]
      refine (Tg.bd t h1 x δ M hv hd hM hx.1).bnd fun δ' M1 l1 s1 b1 => ?_
      rw [kTgs_eq]
      exact (Tgs.bd ts h2 r δ' M1 (hv.mono l1) b1 s1 (Ds.bnd_mono l1 _ hx.2)).le l1
end
/-! ### statements -/
def SOB (n : Nat) : Option SO → Prop
  | some (.nx δ M) => n ≤ M.length ∧ StB M ∧ SlB δ M.length
  | some (.bk δ M) => n ≤ M.length ∧ StB M ∧ SlB δ M.length
  | some (.ct δ M) => n ≤ M.length ∧ StB M ∧ SlB δ M.length
  | some (.rt d M) => n ≤ M.length ∧ StB M ∧ D.bnd M.length d = true
  | some (.exc x δ M) => n ≤ M.length ∧ StB M ∧ SlB δ M.length ∧ Fs.bnd M.length x.fs = true
  | none => True
theorem SOB.le {n m : Nat} {o : Option SO} (h : SOB m o) (hn : n ≤ m) : SOB n o := by
  cases o with
  | none => trivial
  | some o => cases o <;> exact ⟨Nat.le_trans hn h.1, h.2⟩
theorem bndSB {α : Type} {n : Nat} {p : α → Nat → Prop} {r : Rs α} {δ : Sl} {k : α → Store → Option SO} (h : RsB n p r) (hd : SlB δ n) (hk : ∀ a M, n ≤ M.length → StB M → p a M.length → SOB n (k a M)) : SOB n (bndS δ r k) := by
  cases r with
  | none => trivial
  | some o =>
    cases o with
    | ok a M => exact hk a M h.1 h.2.1 h.2.2
    | exc x M => exact ⟨h.1, h.2.1, hd.mono h.1, h.2.2⟩
theorem sqB {n : Nat} {o : Option SO} {k : Sl → Store → Option SO} (h : SOB n o) (hk : ∀ δ M, n ≤ M.length → StB M → SlB δ M.length → SOB n (k δ M)) : SOB n (sq o k) := by
  cases o with
  | none => trivial
  | some o =>
    cases o with
    | nx δ M => exact hk δ M h.1 h.2.1 h.2.2
    | _ => exact h
def FS (v : Ev) (f : Sl → Store → Option SO) : Prop := ∀ δ M, EvB v M.length → SlB δ M.length → StB M → SOB M.length (f δ M)
theorem forLB {v : Ev} {g : Option (Nat × List D)} {kl : List Nat} {F : D → Sl → Store → Option SO} (hF : ∀ x δ M, EvB v M.length → SlB δ M.length → StB M → D.bnd M.length x = true → SOB M.length (F x δ M)) :
    ∀ (xs : List D) (δ : Sl) (M : Store), EvB v M.length → SlB δ M.length → StB M → Ds.bnd M.length xs = true → SOB M.length (forL g kl F xs δ M)
  | [], δ, M, hv, hd, hM, hx => by
    rw [forL_nil]
    split
    · exact ⟨Nat.le_refl _, hM, hd.kill _⟩
    · trivial
  | x :: xs, δ, M, hv, hd, hM, hx => by
    rw [bnd_cons, Bool.and_eq_true] at hx
    rw [forL_cons]
    split
    · have h := hF x δ M hv hd hM hx.1
      split
      · rename_i e
        rw [e] at h
        exact (forLB hF xs _ _ (hv.mono h.1) (h.2.2.kill _) h.2.1 (Ds.bnd_mono h.1 _ hx.2)).le h.1
      · rename_i e
        rw [e] at h
        exact (forLB hF xs _ _ (hv.mono h.1) (h.2.2.kill _) h.2.1 (Ds.bnd_mono h.1 _ hx.2)).le h.1
      · rename_i e
        rw [e] at h
        exact ⟨h.1, h.2.1, h.2.2.kill _⟩
      · exact h
    · trivial
theorem whileLB {v : Ev} {kl : List Nat} {c : Sl → Store → Rs Bool} {f : Sl → Store → Option SO} (hc : FB (fun _ _ => True) v c) (hf : FS v f) : ∀ (n : Nat) (δ : Sl) (M : Store), EvB v M.length → SlB δ M.length → StB M → SOB M.length (whileL kl c f n δ M)
  | 0, δ, M, hv, hd, hM => trivial
  | n + 1, δ, M, hv, hd, hM => by
    unfold whileL
    refine bndSB (hc δ M hv hd hM) hd fun b M1 l1 s1 _ => ?_
    split
    · have h := hf δ M1 (hv.mono l1) (hd.mono l1) s1
      split
      · rename_i e
        rw [e] at h
        exact (whileLB hc hf n _ _ (hv.mono (by have := h.1; omega)) (h.2.2.kill _) h.2.1).le (Nat.le_trans l1 h.1)
      · rename_i e
        rw [e] at h
        exact (whileLB hc hf n _ _ (hv.mono (by have := h.1; omega)) (h.2.2.kill _) h.2.1).le (Nat.le_trans l1 h.1)
      · rename_i e
        rw [e] at h
        exact ⟨Nat.le_trans l1 h.1, h.2.1, h.2.2.kill _⟩
      · exact h.le l1
    · exact ⟨l1, s1, (hd.mono l1).kill _⟩
theorem evC_bd {v : Ev} {j : Nat} (e : E) (h : e.ok j = true) : FB (fun _ _ => True) v (evC v e) := fun δ M hv hd hM => by
  rw [evC_eq]
  refine (E.bd e h δ M hv hd hM).bnd fun d M1 l1 s1 b1 => ?_
  unfold kTst tTst
  split
  · exact ⟨l1, s1, trivial⟩
  · trivial
theorem noxSB {n : Nat} {o : Option SO} (h : SOB n o) : SOB n (noxS o) := by
  cases o with
  | none => trivial
  | some o => cases o <;> first | exact h | trivial
theorem asSB {n i : Nat} {o : Option SO} (h : SOB n o) : SOB n (asS i o) := by
  cases o with
  | none => trivial
  | some o => cases o <;> first | exact ⟨h.1, h.2.1, h.2.2.setN i⟩ | exact h
mutual
theorem S.bd {j : Nat} : ∀ (s : S), s.ok j = true → ∀ v, FS v (evS v s)
  | .exp e, h, v, δ, M, hv, hd, hM => by
    unfold S.ok at h
    rw [evS_exp]
    exact bndSB (E.bd e h δ M hv hd hM) hd fun d M1 l1 s1 b1 => ⟨l1, s1, hd.mono l1⟩
  | .asg t e, h, v, δ, M, hv, hd, hM => by
    unfold S.ok at h
    obtain ⟨h1, h2⟩ := and2 h
    rw [evS_asg]
    refine bndSB (E.bd e h2 δ M hv hd hM) hd fun d M1 l1 s1 b1 => ?_
    unfold kAsg
    refine (bndSB (n := M1.length) (RsB.nox (Tg.bd t h1 d δ M1 (hv.mono l1) (hd.mono l1) s1 b1)) (hd.mono l1) fun δ' M2 l2 s2 b2 => ?_).le l1
    exact ⟨l2, s2, b2⟩
  | .par i k a b, h, v, δ, M, hv, hd, hM => by
    unfold S.ok at h
    obtain ⟨h1, h2⟩ := and2 h
    rw [evS_par]
    refine bndSB (E.bd a h1 δ M hv hd hM) hd fun d M1 l1 s1 b1 => ?_
    unfold kPar
    refine (bndSB (n := M1.length) (E.bd b h2 δ M1 (hv.mono l1) (hd.mono l1) s1) (hd.mono l1) fun e M2 l2 s2 b2 => ?_).le l1
    exact ⟨l2, s2, ((hd.mono (Nat.le_trans l1 l2)).set i (D.bnd_mono l2 _ b1)).set k b2⟩
  | .ret e, h, v, δ, M, hv, hd, hM => by
    unfold S.ok at h
    rw [evS_ret]
    exact bndSB (E.bd e h δ M hv hd hM) hd fun d M1 l1 s1 b1 => ⟨l1, s1, b1⟩
  | .retN, h, v, δ, M, hv, hd, hM => by
    rw [evS_retN]
    exact ⟨Nat.le_refl _, hM, rfl⟩
  | .pass, h, v, δ, M, hv, hd, hM => by
    rw [evS_pass]
    exact ⟨Nat.le_refl _, hM, hd⟩
  | .hole, h, v, δ, M, hv, hd, hM => by
    rw [evS_hole]
    trivial
  | .brk, h, v, δ, M, hv, hd, hM => by
    rw [evS_brk]
    exact ⟨Nat.le_refl _, hM, hd⟩
  | .cont, h, v, δ, M, hv, hd, hM => by
    rw [evS_cont]
    exact ⟨Nat.le_refl _, hM, hd⟩
  | .ifS c a b, h, v, δ, M, hv, hd, hM => by
    unfold S.ok at h
    obtain ⟨h1, h⟩ := and2 h
    obtain ⟨h2, h3⟩ := and2 h
    rw [evS_if]
    refine bndSB (evC_bd c h1 δ M hv hd hM) hd fun t M1 l1 s1 _ => ?_
    unfold kIf
    split
    · exact (Ss.bd a h2 v δ M1 (hv.mono l1) (hd.mono l1) s1).le l1
    · exact (Ss.bd b h3 v δ M1 (hv.mono l1) (hd.mono l1) s1).le l1
  | .forS t k es b kl, h, v, δ, M, hv, hd, hM => by
    unfold S.ok at h
    obtain ⟨h1, h⟩ := and2 h
    obtain ⟨h2, h3⟩ := and2 h
    rw [evS_for]
    refine bndSB (p := ItB) ((Es.bd es h2 δ M hv hd hM).bnd fun ds M1 l1 s1 b1 => itemsB l1 s1 b1) hd fun it M1 l1 s1 b1 => ?_
    unfold kFor
    refine (forLB (v := v) (fun x δ M hv hd hM hx => ?_) it.xs δ M1 (hv.mono l1) (hd.mono l1) s1 b1).le l1
    rw [forF_eq]
    refine bndSB (RsB.nox (Tg.bd t h1 x δ M hv hd hM hx)) hd fun δ' M2 l2 s2 b2 => ?_
    exact (Ss.bd b h3 v δ' M2 (hv.mono l2) b2 s2).le l2
  | .whl n c b kl, h, v, δ, M, hv, hd, hM => by
    unfold S.ok at h
    obtain ⟨h1, h2⟩ := and2 h
    rw [evS_whl]
    exact whileLB (evC_bd c h1) (Ss.bd b h2 v) n δ M hv hd hM
  | .raise c ks es, h, v, δ, M, hv, hd, hM => by
    unfold S.ok at h
    rw [evS_raise]
    refine bndSB (Es.bd es h δ M hv hd hM) hd fun ds M1 l1 s1 b1 => ?_
    unfold kRaise
    split
    · refine ⟨l1, s1, hd.mono l1, ?_⟩
      unfold Fs.bnd
      rw [List.all_eq_true]
      exact fun p hp => Ds_mem b1 (List.of_mem_zip hp).2
    · trivial
  | .tryS b hs, h, v, δ, M, hv, hd, hM => by
    unfold S.ok at h
    obtain ⟨h1, h2⟩ := and2 h
    rw [evS_try]
    have hb := Ss.bd b h1 v δ M hv hd hM
    unfold tryF
    split
    · rename_i x δ' M' e
      rw [e] at hb
      split
      · exact (Hs.bd hs h2 v x δ' M' (hv.mono hb.1) hb.2.2.1 hb.2.1 hb.2.2.2).le hb.1
      · trivial
    · exact hb
  | .kil s is, h, v, δ, M, hv, hd, hM => by
    unfold S.ok at h
    rw [evS_kil]
    exact sqB (S.bd s h v δ M hv hd hM) fun δ' M1 l1 s1 b1 => ⟨l1, s1, b1.kill _⟩
theorem Ss.bd {j : Nat} : ∀ (b : Ss), b.ok j = true → ∀ v, FS v (evSs v b)
  | .nil, h, v, δ, M, hv, hd, hM => by
    rw [evSs_nil]
    exact ⟨Nat.le_refl _, hM, hd⟩
  | .cons s r, h, v, δ, M, hv, hd, hM => by
    unfold Ss.ok at h
    obtain ⟨h1, h2⟩ := and2 h
    rw [evSs_cons]
    refine sqB (S.bd s h1 v δ M hv hd hM) fun δ' M1 l1 s1 b1 => ?_
    rw [kSs_eq]
    exact (Ss.bd r h2 v δ' M1 (hv.mono l1) b1 s1).le l1
theorem Hs.bd {j : Nat} : ∀ (hs : Hs), hs.ok j = true → ∀ v x δ M, EvB v M.length → SlB δ M.length → StB M → Fs.bnd M.length x.fs = true → SOB M.length (evHs v hs x δ M)
  | .nil, h, v, x, δ, M, hv, hd, hM, hx => by
    rw [evHs_nil]
    exact ⟨Nat.le_refl _, hM, hd, hx⟩
  | .cons c i b r, h, v, x, δ, M, hv, hd, hM, hx => by
    unfold Hs.ok at h
    obtain ⟨h1, h2⟩ := and2 h
    cases i with
    | none =>
      rw [evHs_none]
      split
      · exact noxSB (Ss.bd b h1 _ δ M ⟨hv.fn, fun _ _ e => nomatch e⟩ hd hM)
      · exact Hs.bd r h2 v x δ M hv hd hM hx
    | some i =>
      rw [evHs_some]
      split
      · exact asSB (noxSB (Ss.bd b h1 _ _ M ⟨hv.fn, fun _ _ e => by cases e; exact hx⟩ (hd.set i rfl) hM))
      · exact Hs.bd r h2 v x δ M hv hd hM hx
end
theorem args_SlB {ds : List D} {k n : Nat} (h : Ds.bnd n ds = true) : SlB (ds.map some ++ List.replicate k none) n := fun i d e => by
  by_cases hi : i < ds.length
  · rw [List.getElem?_append_left (by simpa using hi), List.getElem?_map, Option.map_eq_some_iff] at e
    obtain ⟨y, e, e2⟩ := e
    cases e2
    exact Ds_mem h (List.mem_of_getElem? e)
  · rw [List.getElem?_append_right (by simpa using hi), List.getElem?_replicate] at e
    split at e <;> cases e
theorem evF_bd {v : Ev} {j n : Nat} {b : Ss} (hv : ∀ f, CtrB (v.fn f)) (hc : v.cx = none) (h : b.ok j = true) : CtrB (evF v n b) := fun ds M hM hd => by
  rw [evF_eq]
  have := Ss.bd b h v (ds.map some ++ List.replicate (n - ds.length) none) M ⟨hv, fun _ _ e => by rw [hc] at e; cases e⟩ (args_SlB hd) hM
  revert this
  unfold outF
  cases evSs v b (ds.map some ++ List.replicate (n - ds.length) none) M with
  | none => exact fun _ => trivial
  | some o =>
    cases o with
    | nx δ M' => exact fun h => ⟨h.1, h.2.1, rfl⟩
    | rt d M' => exact fun h => h
    | exc x δ M' => exact fun h => ⟨h.1, h.2.1, h.2.2.2⟩
    | _ => exact fun _ => trivial
theorem arC_bd {n : Nat} {C : Ctr} (h : CtrB C) : CtrB (arC n C) := fun ds M hM hd => by
  rw [arC_eq]
  split
  · exact h ds M hM hd
  · trivial
theorem none_bd : CtrB fun _ _ => none := fun _ _ _ _ => trivial
/-- a def's own text as its contract -/
theorem cln_self {C : Ctr} {n : Nat} (h : CtrB C) : Cln n C C := fun ds M hl hM hd => by
  have := h ds M hM hd
  cases q : C ds M with
  | none => trivial
  | some o =>
    rw [q] at this
    cases o with
    | ok d M' => exact ⟨this.1, this.2.1, this.2.2, [], by rw [List.append_nil]⟩
    | exc x M' => exact ⟨this.1, this.2.1, this.2.2, [], by rw [List.append_nil]⟩
/-- a contract by hand is bounded -/
theorem cln_bd {C' C : Ctr} {n : Nat} (h : Cln n C' C) : CtrB (arC n C') := fun ds M hM hd => by
  rw [arC_eq]
  split
  · rename_i hl
    have := h ds M hl hM hd
    cases q : C' ds M with
    | none => trivial
    | some o =>
      rw [q] at this
      cases o with
      | ok d M' => exact ⟨this.1, this.2.1, this.2.2.1⟩
      | exc x M' => exact ⟨this.1, this.2.1, this.2.2.1⟩
  · trivial
end Mo
/-! Mo30: what is worked out rests on the contracts that are named. -/
namespace Mo
open PySem PySem.Spec L2
open PyProof.Rows hiding St

structure EvEq (j : Nat) (v v' : Ev) : Prop where
  fn : ∀ f, f < j → v.fn f = v'.fn f
  exn : v.exn = v'.exn
  cx : v.cx = v'.cx
section
variable {j : Nat} {v v' : Ev}
mutual
theorem E.cg (q : EvEq j v v') : ∀ (e : E), e.ok j = true → evE v e = evE v' e
  | .var i, h => by funext δ M; rw [evE_var, evE_var]
  | .lit d, h => by funext δ M; rw [evE_lit, evE_lit]
  | .glb x d, h => by funext δ M; rw [evE_glb, evE_glb]
  | .op p m es, h => by
    unfold E.ok at h
    funext δ M; simp only [evE, Es.cg q es h]
  | .tup es, h => by
    unfold E.ok at h
    funext δ M; simp only [evE, Es.cg q es h]
  | .lst m es, h => by
    unfold E.ok at h
    funext δ M; simp only [evE, Es.cg q es h]
  | .andE a b, h => by
    unfold E.ok at h
    obtain ⟨h1, h2⟩ := and2 h
    funext δ M; simp only [evE, E.cg q a h1, E.cg q b h2]
  | .orE a b, h => by
    unfold E.ok at h
    obtain ⟨h1, h2⟩ := and2 h
    funext δ M; simp only [evE, E.cg q a h1, E.cg q b h2]
  | .notE a, h => by
    unfold E.ok at h
    funext δ M; simp only [evE, E.cg q a h]
  | .ite c a b, h => by
    unfold E.ok at h
    obtain ⟨h1, h⟩ := and2 h
    obtain ⟨h2, h3⟩ := and2 h
    funext δ M; simp only [evE, E.cg q c h1, E.cg q a h2, E.cg q b h3]
  | .meth p m o es, h => by
    unfold E.ok at h
    obtain ⟨h1, h2⟩ := and2 h
    funext δ M; simp only [evE, E.cg q o h1, Es.cg q es h2]
  | .call f es, h => by
    unfold E.ok at h
    obtain ⟨h1, h2⟩ := and2 h
    funext δ M; simp only [evE, Es.cg q es h2, q.fn f (of_decide_eq_true h1)]
  | .mcall c f m o es, h => by
    unfold E.ok at h
    obtain ⟨h0, h⟩ := and2 h
    obtain ⟨h1, h2⟩ := and2 h
    funext δ M; simp only [evE, E.cg q o h1, Es.cg q es h2, q.fn f (of_decide_eq_true h0)]
  | .prop c f o, h => by
    unfold E.ok at h
    obtain ⟨h0, h⟩ := and2 h
    funext δ M; simp only [evE, E.cg q o h, q.fn f (of_decide_eq_true h0)]
  | .make c f es, h => by
    unfold E.ok at h
    obtain ⟨h0, h⟩ := and2 h
    funext δ M; simp only [evE, Es.cg q es h, q.fn f (of_decide_eq_true h0)]
  | .sl3 m a b c, h => by
    unfold E.ok at h
    obtain ⟨h1, h⟩ := and2 h
    obtain ⟨h2, h3⟩ := and2 h
    funext δ M; simp only [evE, E.cg q a h1, E.cg q b h2, E.cg q c h3]
  | .fld c e f, h => by
    unfold E.ok at h
    funext δ M; simp only [evE, E.cg q e h]
  | .tab q' x kvs e d, h => by
    unfold E.ok at h
    obtain ⟨_, h⟩ := and2 h
    obtain ⟨h1, h2⟩ := and2 h
    funext δ M; simp only [evE, E.cg q e h1, E.cg q d h2]
  | .xis i hh, h => by funext δ M; rw [evE_xis, evE_xis, q.cx]
  | .xfld i f, h => by funext δ M; rw [evE_xfld, evE_xfld, q.cx]
  | .chain p q' a b c, h => by
    unfold E.ok at h
    obtain ⟨h1, h⟩ := and2 h
    obtain ⟨h2, h3⟩ := and2 h
    funext δ M; simp only [evE, E.cg q a h1, E.cg q b h2, E.cg q c h3]
  | .frz e, h => by
    unfold E.ok at h
    funext δ M; simp only [evE, E.cg q e h]
  | .newD t, h => by funext δ M; rw [evE_newD, evE_newD]
  | .disp es, h => by
    unfold E.ok at h
    funext δ M; simp only [evE, Es.cg q es h]
  | .comp m own elt t k es ifs, h => by
    unfold E.ok at h
    obtain ⟨h1, h⟩ := and2 h
    obtain ⟨h2, h⟩ := and2 h
    obtain ⟨h3, h4⟩ := and2 h
    funext δ M; simp only [evE, E.cg q elt h1, Tg.cg q t h2, Es.cg q es h3, Es.cgI q ifs h4]
  | .dcomp own kx vx t k es ifs, h => by
    unfold E.ok at h
    obtain ⟨h0, h⟩ := and2 h
    obtain ⟨h1, h⟩ := and2 h
    obtain ⟨h2, h⟩ := and2 h
    obtain ⟨h3, h4⟩ := and2 h
    funext δ M; simp only [evE, E.cg q kx h0, E.cg q vx h1, Tg.cg q t h2, Es.cg q es h3, Es.cgI q ifs h4]
  | .comp2 m own elt t k es t2 k2 es2, h => by
    unfold E.ok at h
    obtain ⟨h1, h⟩ := and2 h
    obtain ⟨h2, h⟩ := and2 h
    obtain ⟨h3, h⟩ := and2 h
    obtain ⟨h4, h5⟩ := and2 h
    funext δ M; simp only [evE, E.cg q elt h1, Tg.cg q t h2, Es.cg q es h3, Tg.cg q t2 h4, Es.cg q es2 h5]
theorem Es.cg (q : EvEq j v v') : ∀ (es : Es), es.ok j = true → evEs v es = evEs v' es
  | .nil, h => by funext δ M; rw [evEs_nil, evEs_nil]
  | .cons e es, h => by
    unfold Es.ok at h
    obtain ⟨h1, h2⟩ := and2 h
    funext δ M; simp only [evEs, E.cg q e h1, Es.cg q es h2]
theorem Es.cgI (q : EvEq j v v') : ∀ (es : Es), es.ok j = true → evIfs v es = evIfs v' es
  | .nil, h => by funext δ M; rw [evIfs_nil, evIfs_nil]
  | .cons e es, h => by
    unfold Es.ok at h
    obtain ⟨h1, h2⟩ := and2 h
    funext δ M; simp only [evIfs, E.cg q e h1, Es.cgI q es h2]
theorem Tg.cg (q : EvEq j v v') : ∀ (t : Tg), t.ok j = true → evTg v t = evTg v' t
  | .nm i, h => by funext d δ M; rw [evTg_nm, evTg_nm]
  | .tup ts, h => by
    unfold Tg.ok at h
    funext d δ M; simp only [evTg, Tgs.cg q ts h]
  | .sub o i, h => by
    unfold Tg.ok at h
    obtain ⟨h1, h2⟩ := and2 h
    funext d δ M; simp only [evTg, E.cg q o h1, E.cg q i h2]
  | .dsub o i, h => by
    unfold Tg.ok at h
    obtain ⟨h1, h2⟩ := and2 h
    funext d δ M; simp only [evTg, E.cg q o h1, E.cg q i h2]
  | .att c o f, h => by
    unfold Tg.ok at h
    funext d δ M; simp only [evTg, E.cg q o h]
  | .slc o a b, h => by
    unfold Tg.ok at h
    obtain ⟨h1, h⟩ := and2 h
    obtain ⟨h2, h3⟩ := and2 h
    funext d δ M; simp only [evTg, E.cg q o h1, E.cg q a h2, E.cg q b h3]
theorem Tgs.cg (q : EvEq j v v') : ∀ (ts : Tgs), ts.ok j = true → evTgs v ts = evTgs v' ts
  | .nil, h => by funext xs δ M; simp only [evTgs]
  | .cons t ts, h => by
    unfold Tgs.ok at h
    obtain ⟨h1, h2⟩ := and2 h
    funext xs δ M; simp only [evTgs, Tg.cg q t h1, Tgs.cg q ts h2]
end
end
theorem evC_cg {j : Nat} {v v' : Ev} (q : EvEq j v v') (e : E) (h : e.ok j = true) : evC v e = evC v' e := by
  funext δ M
  unfold evC
  rw [E.cg q e h]
mutual
theorem S.cg {j : Nat} : ∀ (s : S), s.ok j = true → ∀ v v', EvEq j v v' → evS v s = evS v' s
  | .exp e, h, v, v', q => by
    unfold S.ok at h
    funext δ M; simp only [evS, E.cg q e h]
  | .asg t e, h, v, v', q => by
    unfold S.ok at h
    obtain ⟨h1, h2⟩ := and2 h
    funext δ M; simp only [evS, Tg.cg q t h1, E.cg q e h2]
  | .par i k a b, h, v, v', q => by
    unfold S.ok at h
    obtain ⟨h1, h2⟩ := and2 h
    funext δ M; simp only [evS, E.cg q a h1, E.cg q b h2]
  | .ret e, h, v, v', q => by
    unfold S.ok at h
    funext δ M; simp only [evS, E.cg q e h]
  | .retN, h, v, v', q => by funext δ M; rw [evS_retN, evS_retN]
  | .pass, h, v, v', q => by funext δ M; rw [evS_pass, evS_pass]
  | .hole, h, v, v', q => by funext δ M; rw [evS_hole, evS_hole]
  | .brk, h, v, v', q => by funext δ M; rw [evS_brk, evS_brk]
  | .cont, h, v, v', q => by funext δ M; rw [evS_cont, evS_cont]
  | .ifS c a b, h, v, v', q => by
    unfold S.ok at h
    obtain ⟨h1, h⟩ := and2 h
    obtain ⟨h2, h3⟩ := and2 h
    funext δ M; simp only [evS, evC_cg q c h1, Ss.cg a h2 v v' q, Ss.cg b h3 v v' q]
  | .forS t k es b kl, h, v, v', q => by
    unfold S.ok at h
    obtain ⟨h1, h⟩ := and2 h
    obtain ⟨h2, h3⟩ := and2 h
    funext δ M; simp only [evS, Tg.cg q t h1, Es.cg q es h2, Ss.cg b h3 v v' q]
  | .whl n c b kl, h, v, v', q => by
    unfold S.ok at h
    obtain ⟨h1, h2⟩ := and2 h
    funext δ M; simp only [evS, evC_cg q c h1, Ss.cg b h2 v v' q]
  | .raise c ks es, h, v, v', q => by
    unfold S.ok at h
    funext δ M; simp only [evS, Es.cg q es h]
  | .tryS b hs, h, v, v', q => by
    unfold S.ok at h
    obtain ⟨h1, h2⟩ := and2 h
    funext δ M
    rw [evS_try, evS_try, Ss.cg b h1 v v' q, q.exn]
    congr 1
    funext x δ' M'
    rw [kHs_eq, kHs_eq, Hs.cg hs h2 v v' q]
  | .kil s is, h, v, v', q => by
    unfold S.ok at h
    funext δ M
    rw [evS_kil, evS_kil, S.cg s h v v' q]
theorem Ss.cg {j : Nat} : ∀ (b : Ss), b.ok j = true → ∀ v v', EvEq j v v' → evSs v b = evSs v' b
  | .nil, h, v, v', q => by funext δ M; rw [evSs_nil, evSs_nil]
  | .cons s r, h, v, v', q => by
    unfold Ss.ok at h
    obtain ⟨h1, h2⟩ := and2 h
    funext δ M
    rw [evSs_cons, evSs_cons, S.cg s h1 v v' q]
    congr 1
    funext δ' M'
    rw [kSs_eq, kSs_eq, Ss.cg r h2 v v' q]
theorem Hs.cg {j : Nat} : ∀ (hs : Hs), hs.ok j = true → ∀ v v', EvEq j v v' → evHs v hs = evHs v' hs
  | .nil, h, v, v', q => by funext x δ M; rw [evHs_nil, evHs_nil]
  | .cons c i b r, h, v, v', q => by
    unfold Hs.ok at h
    obtain ⟨h1, h2⟩ := and2 h
    funext x δ M
    cases i with
    | none => rw [evHs_none, evHs_none, Ss.cg b h1 { v with cx := none } { v' with cx := none } ⟨q.fn, q.exn, rfl⟩, Hs.cg r h2 v v' q]
    | some i => rw [evHs_some, evHs_some, Ss.cg b h1 { v with cx := some (x, i) } { v' with cx := some (x, i) } ⟨q.fn, q.exn, rfl⟩, Hs.cg r h2 v v' q]
end
theorem evF_cg {j : Nat} {v v' : Ev} (q : EvEq j v v') {n : Nat} {b : Ss} (h : b.ok j = true) : evF v n b = evF v' n b := by
  funext ds M
  rw [evF_eq, evF_eq, Ss.cg b h v v' q]
/-- a table with one contract more -/
def Ev.snoc (v : Ev) (j : Nat) (C : Ctr) : Ev := { v with fn := fun f => if f = j then C else v.fn f }
theorem EvEq.step {j : Nat} {v w : Ev} {C : Ctr} (h : EvEq (j + 1) (v.snoc j C) w) : EvEq j v w := ⟨fun f hf => by
  rw [← h.fn f (by omega)]
  show _ = if f = j then C else v.fn f
  rw [if_neg (by omega)], h.exn, h.cx⟩
theorem EvEq.self (j : Nat) (v : Ev) : EvEq j v v := ⟨fun _ _ => rfl, rfl, rfl⟩
theorem snoc_bd {v : Ev} {j : Nat} {C : Ctr} (h : ∀ f, CtrB (v.fn f)) (hC : CtrB C) : ∀ f, CtrB ((v.snoc j C).fn f) := fun f => by
  show CtrB (if f = j then C else v.fn f)
  split
  · exact hC
  · exact h f
end Mo
/-! Mo31: dicts with keys by name; maybe texts; texts some times; membership of ints; parts of a store that stay. -/
namespace Mo
open PySem PySem.Spec L2
open PyProof.Rows hiding St

/-! ### dicts -/
def tGet (d : D) : Option Ob → Option (Option D)
  | some (.dk kvs) => (keyD d).map fun k => lookK kvs k
  | some (.dt kvs) => match d with
    | .tup ds => (keysD ds).map fun k => lookK kvs k
    | _ => none
  | _ => none
theorem getD_tGet (M : Store) (n : Nat) (d : D) : Mo.getD M n d = tGet d M[n]? := by
  unfold Mo.getD tGet
  cases M[n]? with
  | none => rfl
  | some o => cases o <;> rfl
@[simp] theorem tGet_sy (i : Nat) (kvs : List (Key × D)) : tGet (.sy i) (some (.dk kvs)) = some (lookK kvs (.inr (nm i))) := rfl
@[simp] theorem tGet_int (i : Int) (kvs : List (Key × D)) : tGet (.int i) (some (.dk kvs)) = some (lookK kvs (.inl i)) := rfl
@[simp] theorem tGet_str (x : PySem.Str) (kvs : List (Key × D)) : tGet (.str x) (some (.dk kvs)) = some (lookK kvs (.inr x)) := rfl
def tSet (M : Store) (n : Nat) (d y : D) : Option Ob → Option Store
  | some (.dk kvs) => match keyD d with
    | some k => if kvs.length < line then some (M.set n (.dk (storeK kvs k y))) else none
    | none => none
  | some (.dt kvs) => match d with
    | .tup ds => match keysD ds with
      | some k => if kvs.length < line then some (M.set n (.dt (storeK kvs k y))) else none
      | none => none
    | _ => none
  | _ => none
theorem setD_tSet (M : Store) (n : Nat) (d y : D) : setD M n d y = tSet M n d y M[n]? := by
  unfold setD tSet
  cases M[n]? with
  | none => rfl
  | some o => cases o <;> rfl
@[simp] theorem tSet_sy (M : Store) (n i : Nat) (y : D) (kvs : List (Key × D)) : tSet M n (.sy i) y (some (.dk kvs)) = if kvs.length < line then some (M.set n (.dk (storeK kvs (.inr (nm i)) y))) else none := rfl
@[simp] theorem tSet_int (M : Store) (n : Nat) (i : Int) (y : D) (kvs : List (Key × D)) : tSet M n (.int i) y (some (.dk kvs)) = if kvs.length < line then some (M.set n (.dk (storeK kvs (.inl i) y))) else none := rfl
@[simp] theorem tSet_str (M : Store) (n : Nat) (x : PySem.Str) (y : D) (kvs : List (Key × D)) : tSet M n (.str x) y (some (.dk kvs)) = if kvs.length < line then some (M.set n (.dk (storeK kvs (.inr x) y))) else none := rfl
def tDk : Option Ob → Bool
  | some (.dk _) => true
  | some (.dt _) => true
  | _ => false
@[simp] theorem tDk_dk (kvs : List (Key × D)) : tDk (some (.dk kvs)) = true := rfl
theorem isDict_tDk (M : Store) (n : Nat) : isDict M (.oid n) = tDk M[n]? := by
  show (match M[n]? with
    | some (.dk _) => true
    | some (.dt _) => true
    | _ => false) = _
  cases M[n]? with
  | none => rfl
  | some o => cases o <;> rfl
@[simp] theorem recv_get1 (M : Store) (n : Nat) : recv .get1 M (.oid n) = tDk M[n]? := isDict_tDk M n
@[simp] theorem recv_get2 (M : Store) (n : Nat) : recv .get2 M (.oid n) = tDk M[n]? := isDict_tDk M n
def tGet1 (M : Store) : Option (Option D) → Option PO
  | some r => some (.v (r.getD .non) M)
  | none => none
@[simp] theorem tGet1_eq (M : Store) (r : Option D) : tGet1 M (some r) = some (.v (r.getD .non) M) := rfl
@[simp] theorem pGet1_eq (M : Store) (n : Nat) (k : D) : pGet1 [.oid n, k] M = tGet1 M (tGet k M[n]?) := by
  rw [← getD_tGet]
  show (match Mo.getD M n k with
    | some r => some (PO.v (r.getD .non) M)
    | none => none) = _
  cases Mo.getD M n k <;> rfl
def tGet2 (M : Store) (z : D) : Option (Option D) → Option PO
  | some r => some (.v (r.getD z) M)
  | none => none
@[simp] theorem tGet2_eq (M : Store) (z : D) (r : Option D) : tGet2 M z (some r) = some (.v (r.getD z) M) := rfl
@[simp] theorem pGet2_eq (M : Store) (n : Nat) (k z : D) : pGet2 [.oid n, k, z] M = tGet2 M z (tGet k M[n]?) := by
  rw [← getD_tGet]
  show (match Mo.getD M n k with
    | some r => some (PO.v (r.getD z) M)
    | none => none) = _
  cases Mo.getD M n k <;> rfl
section
variable {κ : Type} [DecidableEq κ]
theorem lookK_cons (kvs : List (κ × D)) (k k' : κ) (y : D) : lookK ((k', y) :: kvs) k = if k' = k then some y else lookK kvs k := by
  unfold lookK
  rw [List.find?_cons]
  by_cases h : k' = k
  · subst h; simp
  · simp [h]
theorem lookK_none {k : κ} : ∀ {kvs : List (κ × D)}, (kvs.any fun kv => decide (kv.1 = k)) = false → lookK kvs k = none
  | [], _ => rfl
  | (k', y) :: kvs, h => by
    rw [List.any_cons, Bool.or_eq_false_iff] at h
    rw [lookK_cons, if_neg (of_decide_eq_false h.1), lookK_none h.2]
theorem lookK_app {k k' : κ} {y : D} : ∀ {kvs : List (κ × D)}, lookK (kvs ++ [(k', y)]) k = match lookK kvs k with
    | some z => some z
    | none => if k' = k then some y else none
  | [] => by rw [List.nil_append, lookK_cons]; rfl
  | (k2, y2) :: kvs => by
    rw [List.cons_append, lookK_cons, lookK_cons, lookK_app]
    split <;> rfl
theorem lookK_map {k k' : κ} {y : D} : ∀ {kvs : List (κ × D)}, lookK (kvs.map fun kv => if kv.1 = k' then (kv.1, y) else kv) k = if k' = k then (lookK kvs k).map fun _ => y else lookK kvs k
  | [] => by simp [lookK]
  | (k2, y2) :: kvs => by
    rw [List.map_cons]
    by_cases h2 : k2 = k'
    · subst h2
      rw [if_pos rfl]
      show lookK ((k2, y) :: _) k = _
      rw [lookK_cons, lookK_cons, lookK_map]
      by_cases h : k2 = k
      · simp [h]
      · simp [h]
    · rw [if_neg h2, lookK_cons, lookK_cons, lookK_map]
      by_cases h : k' = k
      · subst h
        rw [if_neg h2, if_pos rfl, if_neg h2, if_pos rfl]
      · rw [if_neg h, if_neg h]
theorem lookK_store (kvs : List (κ × D)) (k k' : κ) (y : D) : lookK (storeK kvs k' y) k = if k' = k then some y else lookK kvs k := by
  unfold storeK
  split
  · rename_i h
    rw [lookK_map]
    by_cases e : k' = k
    · subst e
      rw [if_pos rfl, if_pos rfl]
      cases q : lookK kvs k' with
      | some z => rfl
      | none =>
        exfalso
        unfold lookK at q
        rw [Option.map_eq_none_iff, List.find?_eq_none] at q
        obtain ⟨p, hp, h2⟩ := List.any_eq_true.mp h
        exact q p hp h2
    · rw [if_neg e, if_neg e]
  · rename_i h
    rw [Bool.not_eq_true] at h
    rw [lookK_app]
    by_cases e : k' = k
    · subst e
      rw [lookK_none h]
    · rw [if_neg e, if_neg e]
      cases lookK kvs k <;> rfl
theorem storeK_len (kvs : List (κ × D)) (k : κ) (y : D) : (storeK kvs k y).length ≤ kvs.length + 1 := by
  unfold storeK
  split <;> simp
end
@[simp] theorem lookK_sy (kvs : List (Key × D)) (i j : Nat) (y : D) : lookK (storeK kvs (.inr (nm j)) y) (.inr (nm i)) = if j = i then some y else lookK kvs (.inr (nm i)) := by
  rw [lookK_store]
  by_cases h : j = i
  · subst h; simp
  · rw [if_neg h, if_neg fun e => h (nm_inj (Sum.inr.inj e))]
@[simp] theorem lookK_in (kvs : List (Key × D)) (i j : Int) (y : D) : lookK (storeK kvs (.inl j) y) (.inl i) = if j = i then some y else lookK kvs (.inl i) := by
  rw [lookK_store]
  by_cases h : j = i
  · subst h; simp
  · rw [if_neg h, if_neg fun e => h (Sum.inl.inj e)]
@[simp] theorem lookK_nil (k : Key) : lookK ([] : List (Key × D)) k = none := rfl
@[simp] theorem keyD_sy (i : Nat) : keyD (.sy i) = some (.inr (nm i)) := rfl
@[simp] theorem keyD_int (i : Int) : keyD (.int i) = some (.inl i) := rfl
@[simp] theorem keyD_str (x : PySem.Str) : keyD (.str x) = some (.inr x) := rfl
@[simp] theorem prsK_nil : prsK [] = some [] := rfl
def tPrs (v : D) : Option Key → Option (List (Key × D)) → Option (List (Key × D))
  | some k', some r' => some ((k', v) :: r')
  | _, _ => none
@[simp] theorem tPrs_eq (v : D) (k : Key) (r : List (Key × D)) : tPrs v (some k) (some r) = some ((k, v) :: r) := rfl
@[simp] theorem prsK_cons (k v : D) (r : List D) : prsK (k :: v :: r) = tPrs v (keyD k) (prsK r) := by
  show (match keyD k, prsK r with
    | some k', some r' => some ((k', v) :: r')
    | _, _ => none) = _
  cases keyD k <;> cases prsK r <;> rfl
def oD : Option (Option D) → Option D
  | some (some d) => some d
  | _ => none
/-! ### maybe texts -/
def oT : Option (List Nat) → D
  | none => .non
  | some a => .str (tx a)
@[simp] theorem oT_none : oT none = .non := rfl
@[simp] theorem oT_some (a : List Nat) : oT (some a) = .str (tx a) := rfl
@[simp] theorem isExr_oT (o : Option (List Nat)) : isExr (oT o) = false := by cases o <;> rfl
@[simp] theorem isNon_oT (o : Option (List Nat)) : isNon (oT o) = o.isNone := by cases o <;> rfl
@[simp] theorem pMul_tx {M : Store} (a : List Nat) (k : Int) : pMul [.str (tx a), .int k] M = if 0 ≤ k ∧ k ≤ 1000 ∧ a.length ≤ 1000 then some (.v (.str (tx (List.replicate k.toNat a).flatten)) M) else none := by
  rw [pMul_str, tx_len, tx_list]; rfl
theorem rep_flat1 (n c : Nat) : (List.replicate n [c]).flatten = List.replicate n c := by
  induction n with
  | zero => rfl
  | succ n ih => rw [List.replicate_succ, List.flatten_cons, ih, List.replicate_succ]; rfl
/-! ### ints in a list -/
theorem inLs_ints {M : Store} (p : Int) : ∀ ps : List Int, inLs M (.int p) (ps.map D.int) = some (decide (p ∈ ps))
  | [] => by simp
  | q :: ps => by
    rw [List.map_cons, inLs_cons, inLs_ints p ps, eqN_int, orO_tt]
    congr 1
    rw [Bool.eq_iff_iff]
    simp only [Bool.or_eq_true, decide_eq_true_eq, List.mem_cons]
    exact ⟨fun h => h.imp (fun e => e.symm) id, fun h => h.imp (fun e => e.symm) id⟩
theorem inLs_txs {M : Store} (a : List Nat) (ha : okT a = true) : ∀ as : List (List Nat), (∀ b ∈ as, okT b = true) → inLs M (.str (tx a)) (as.map fun b => .str (tx b)) = some (decide (a ∈ as))
  | [], _ => by simp [ha]
  | b :: as, h => by
    rw [List.map_cons, inLs_cons, inLs_txs a ha as fun c hc => h c (List.mem_cons_of_mem _ hc), eqN_tx b a (h b List.mem_cons_self) ha, orO_tt]
    congr 1
    rw [Bool.eq_iff_iff]
    simp only [Bool.or_eq_true, decide_eq_true_eq, List.mem_cons]
    exact ⟨fun h => h.imp (fun e => e.symm) id, fun h => h.imp (fun e => e.symm) id⟩
/-! ### parts that stay -/
theorem get_app {M : Store} {n : Nat} {o : Ob} (N : Store) (h : M[n]? = some o) : (M ++ N)[n]? = some o := by
  rw [List.getElem?_append_left (List.getElem?_eq_some_iff.mp h).1]; exact h
theorem get_ne {M : Store} {n m : Nat} {o o2 : Ob} (h : M[n]? = some o) (hne : m ≠ n) : (M.set m o2)[n]? = some o := by
  rw [List.getElem?_set_ne hne]; exact h
theorem get_eq {M : Store} {n : Nat} {o : Ob} (o2 : Ob) (h : M[n]? = some o) : (M.set n o2)[n]? = some o2 := List.getElem?_set_self (List.getElem?_eq_some_iff.mp h).1
theorem get_lt {M : Store} {n : Nat} {o : Ob} (h : M[n]? = some o) : n < M.length := (List.getElem?_eq_some_iff.mp h).1
/-- two addresses whose objects differ differ -/
theorem ne_of_get {M : Store} {n m : Nat} {o o2 : Ob} (h : M[n]? = some o) (h2 : M[m]? = some o2) (hne : o ≠ o2) : n ≠ m := fun e => by
  subst e
  exact hne (Option.some.inj (h.symm.trans h2))
end Mo
/-! Mo32: numbered rows; rows of objects. -/
namespace Mo
open PySem PySem.Spec L2
open PyProof.Rows hiding St

@[simp] theorem lkS (f : Nat) (d : D) (r : List (Nat × D)) : List.lookup f ((f, d) :: r) = some d := by rw [List.lookup_cons]; simp
@[simp] theorem lkN (f g : Nat) (d : D) (r : List (Nat × D)) (h : (f == g) = false) : List.lookup f ((g, d) :: r) = List.lookup f r := by rw [List.lookup_cons, h]
@[simp] theorem lkZ (f : Nat) : List.lookup f ([] : List (Nat × D)) = none := rfl
/-- a row with its numbers -/
theorem enum_rng {α : Type} (e : α → D) (xs : List α) (d : α) : (xs.map e).zipIdx.map (fun p => D.tup [.int (p.2 : Int), p.1]) = (List.range xs.length).map fun i : Nat => D.tup [.int (i : Int), e (xs.getD i d)] := by
  refine List.ext_getElem? fun i => ?_
  by_cases h : i < xs.length
  · rw [List.getElem?_map, List.getElem?_zipIdx, List.getElem?_map, getD_lt d h, List.getElem?_map, List.getElem?_range h]
    simp
  · rw [List.getElem?_eq_none (by simp; omega), List.getElem?_eq_none (by simp; omega)]
theorem map_rng {α β : Type} (e : α → β) (xs : List α) (d : α) : xs.map e = (List.range xs.length).map fun i => e (xs.getD i d) := by
  refine List.ext_getElem? fun i => ?_
  by_cases h : i < xs.length
  · rw [List.getElem?_map, getD_lt d h, List.getElem?_map, List.getElem?_range h]; rfl
  · rw [List.getElem?_eq_none (by simp; omega), List.getElem?_eq_none (by simp; omega)]
/-- the first number of a row that p takes -/
def fst? (n : Nat) (p : Nat → Bool) : Option Nat := (List.range n).find? p
theorem fst_some {n : Nat} {p : Nat → Bool} {i : Nat} (h : fst? n p = some i) : i < n ∧ p i = true ∧ ∀ j, j < i → p j = false := by
  unfold fst? at h
  rw [List.find?_range_eq_some] at h
  refine ⟨by have := h.2.1; simpa using this, h.1, fun j hj => ?_⟩
  have := h.2.2 j hj
  simpa using this
theorem fst_none {n : Nat} {p : Nat → Bool} (h : fst? n p = none) {j : Nat} (hj : j < n) : p j = false := by
  unfold fst? at h
  rw [List.find?_eq_none] at h
  have := h j (List.mem_range.mpr hj)
  simpa using this
theorem fst_of {n : Nat} {p : Nat → Bool} {i : Nat} (h : i < n) (hp : p i = true) (hj : ∀ j, j < i → p j = false) : fst? n p = some i := by
  unfold fst?
  rw [List.find?_range_eq_some]
  exact ⟨hp, by simpa using h, fun j h2 => by simpa using hj j h2⟩
theorem fst_no {n : Nat} {p : Nat → Bool} (h : ∀ j, j < n → p j = false) : fst? n p = none := by
  unfold fst?
  rw [List.find?_eq_none]
  intro j hj
  rw [h j (List.mem_range.mp hj)]
  decide
theorem fst_congr {n : Nat} {p q : Nat → Bool} (h : ∀ j, j < n → p j = q j) : fst? n p = fst? n q := find_congr fun j hj => h j (List.mem_range.mp hj)
def oN (o : Option Nat) : D := oI (o.map fun n : Nat => (n : Int))
@[simp] theorem oN_none : oN none = .non := rfl
@[simp] theorem oN_some (n : Nat) : oN (some n) = .int (n : Int) := rfl
@[simp] theorem isExr_oN (o : Option Nat) : isExr (oN o) = false := isExr_oI _
@[simp] theorem isNon_oN (o : Option Nat) : isNon (oN o) = o.isNone := by cases o <;> rfl
def oS (o : Option Nat) : D := match o with
  | none => .non
  | some k => .sy k
@[simp] theorem oS_none : oS none = .non := rfl
@[simp] theorem oS_some (n : Nat) : oS (some n) = .sy n := rfl
@[simp] theorem isExr_oS (o : Option Nat) : isExr (oS o) = false := by cases o <;> rfl
@[simp] theorem isNon_oS (o : Option Nat) : isNon (oS o) = o.isNone := by cases o <;> rfl
/-- a search in the numbers of a row -/
theorem forL_fst {kl : List Nat} {F : D → Sl → Store → Option SO} {g : Option (Nat × List D)} {δ : Sl} {M : Store} (n : Nat) (e : Nat → D) (p : Nat → Bool) (r : Nat → D) (hg : gdOk g M) (hk : kill δ kl = δ)
    (h : ∀ i, i < n → (p i = true → F (e i) δ M = some (.rt (r i) M)) ∧ (p i = false → killN kl (F (e i) δ M) = some (.nx δ M))) :
    forL g kl F ((List.range n).map e) δ M = match fst? n p with
      | some x => some (.rt (r x) M)
      | none => some (.nx δ M) := by
  rw [forL_find e p r hg hk (List.range n) fun i hi => h i (List.mem_range.mp hi)]
  unfold fst?
  cases List.find? p (List.range n) <;> rfl
theorem getD_nodup {l : List Nat} (h : l.Nodup) {i j : Nat} (hi : i < l.length) (hj : j < l.length) (e : l.getD i 0 = l.getD j 0) : i = j := by
  have a := getD_lt (A := l) 0 hi
  have b := getD_lt (A := l) 0 hj
  rw [e] at a
  exact nodupA h a b
theorem getD_app1 {α : Type} (l m : List α) (i : Nat) (d : α) (h : i < l.length) : (l ++ m).getD i d = l.getD i d := by
  rw [List.getD_eq_getElem?_getD, List.getD_eq_getElem?_getD, List.getElem?_append_left h]
theorem getD_snoc {α : Type} (l : List α) (a d : α) : (l ++ [a]).getD l.length d = a := by
  rw [List.getD_eq_getElem?_getD, List.getElem?_append_right (Nat.le_refl _)]
  simp
theorem nodup_snoc {l : List Nat} {a : Nat} (h : l.Nodup) (ha : a ∉ l) : (l ++ [a]).Nodup := by
  rw [List.nodup_append]
  exact ⟨h, by simp, fun x hx y hy => by simp at hy; subst hy; exact fun e => ha (e ▸ hx)⟩
end Mo
namespace Mo
open PySem PySem.Spec L2
open PyProof.Rows hiding St
theorem eqL_same {M : Store} {n : Nat} {xs : List D} (h : xs.all (okDn n) = true) : eqL M n xs xs = some true := by
  have := eqN_lst_self (M := M) h
  rwa [eqN_lst] at this
end Mo
namespace Mo
open PySem PySem.Spec L2
open PyProof.Rows hiding St
theorem inD_tsy {M : Store} (k : Nat) (l : List Nat) : inD M (.sy k) (.tup (l.map D.sy)) = some (decide (k ∈ l)) := by
  have h1 : (flatD (.sy k) && (l.map D.sy).all flatD) = true := by simp
  show (if (flatD (.sy k) && (l.map D.sy).all flatD) = true then some (L2.inV (toV (.sy k)) ((l.map D.sy).map toV)) else none) = _
  rw [if_pos h1]
  congr 1
  show ((l.map D.sy).map toV).any (fun y => L2.eqV y (.str (nm k))) = _
  rw [List.map_map, List.any_map]
  rw [Bool.eq_iff_iff, List.any_eq_true, decide_eq_true_eq]
  constructor
  · rintro ⟨j, hj, e⟩
    have e : (nm j == nm k) = true := e
    rw [nm_beq, beq_iff_eq] at e
    exact e ▸ hj
  · intro h
    exact ⟨k, h, by show (nm k == nm k) = true; simp⟩
theorem filter_rng {α : Type} (xs : List α) (d : α) (p : α → Bool) : xs.filter p = ((List.range xs.length).filter fun i => p (xs.getD i d)).map fun i => xs.getD i d := by
  have h := map_rng (fun a : α => a) xs d
  rw [List.map_id'] at h
  have : ((List.range xs.length).map fun i => xs.getD i d).filter p = _ := List.filter_map
  rw [← h] at this
  exact this
end Mo
/-! Mo33: loops that may be left. -/
namespace Mo
open PySem PySem.Spec L2
open PyProof.Rows hiding St
theorem forL_PB {α β : Type} {kl : List Nat} {F : D → Sl → Store → Option SO} {g : Option (Nat × List D)} (e : β → D) (emb : α → Sl × Store) (P : Nat → α → Prop) (Q : α → Prop) (xs : List β) (a : α) (p : P 0 a) (hg : ∀ i a, P i a → gdOk g (emb a).2) (hk : ∀ a, P xs.length a → kill (emb a).1 kl = (emb a).1)
    (hs : ∀ k x a, xs[k]? = some x → P k a → (∃ a', P (k + 1) a' ∧ killN kl (F (e x) (emb a).1 (emb a).2) = some (.nx (emb a').1 (emb a').2)) ∨ (∃ a' δ', Q a' ∧ F (e x) (emb a).1 (emb a).2 = some (.bk δ' (emb a').2) ∧ kill δ' kl = (emb a').1)) :
    ∃ a', (P xs.length a' ∨ Q a') ∧ forL g kl F (xs.map e) (emb a).1 (emb a).2 = some (.nx (emb a').1 (emb a').2) := by
  have gen : ∀ (ys : List β) (n : Nat) (a : α), P n a → n + ys.length = xs.length → (∀ k x, ys[k]? = some x → xs[n + k]? = some x) → ∃ a', (P xs.length a' ∨ Q a') ∧ forL g kl F (ys.map e) (emb a).1 (emb a).2 = some (.nx (emb a').1 (emb a').2) := by
    intro ys
    induction ys with
    | nil =>
      intro n a pa hn _
      have hn : n = xs.length := by simpa using hn
      subst hn
      exact ⟨a, .inl pa, by rw [List.map_nil, forL_nil, if_pos (hg _ _ pa), hk _ pa]⟩
    | cons y ys ih =>
      intro n a pa hn hy
      have hn' : n + (ys.length + 1) = xs.length := by simpa using hn
      rcases hs n y a (hy 0 y rfl) pa with ⟨a1, p1, h1⟩ | ⟨a1, δ', q1, h1, h2⟩
      · obtain ⟨δ', e1, e2⟩ := killN_nx_of h1
        obtain ⟨a', p', h'⟩ := ih (n + 1) a1 p1 (by omega) fun k x hx => by
          have := hy (k + 1) x (by simpa using hx)
          rwa [show n + (k + 1) = n + 1 + k by omega] at this
        refine ⟨a', p', ?_⟩
        rw [List.map_cons, forL_cons, if_pos (hg n a pa)]
        rcases e1 with e1 | e1 <;>
        · rw [e1]
          show forL g kl F (ys.map e) (kill δ' kl) _ = _
          rw [e2]
          exact h'
      · refine ⟨a1, .inr q1, ?_⟩
        rw [List.map_cons, forL_cons, if_pos (hg n a pa), h1]
        show some (SO.nx (kill δ' kl) _) = _
        rw [h2]
  exact gen xs 0 a p (by omega) fun k x hx => by rwa [Nat.zero_add]
theorem set_snoc {α : Type} (l : List α) (a b : α) : (l ++ [a]).set l.length b = l ++ [b] := by
  rw [List.set_append_right _ _ (Nat.le_refl _)]; simp
end Mo
/-! ### the texts -/
namespace Lw
open PySem L2 Mo
def tb_EXTENDED : List (Str × D) := [((tx [94]), (.int 20)), ((tx [123]), (.int 40)), ((tx [125]), (.int 41)), ((tx [92]), (.int 47)), ((tx [91]), (.int 60)), ((tx [126]), (.int 61)), ((tx [93]), (.int 62)), ((tx [124]), (.int 64))]
def tb_MOVED : List (Str × D) := [((tx [64]), (.int 0)), ((tx [36]), (.int 2)), ((tx [95]), (.int 17))]
def top (i : Nat) : Stmt := PySem.Challenge.pw_mobileair_k26_signs_and_septets.main.body.getD i (.Pass ⟨0, 0, 0, 0⟩)
/-- write_sign: 0 sign -/
abbrev t_write_sign : Stmt := top 8
def d_write_sign : Ss := (.cons (.ifS (.op .notIn false (.cons (.var 0) (.cons (.glb "SIGNS" (.str (tx [10, 32, 33, 34, 35, 36, 38, 39, 40, 41, 42, 43, 44, 45, 46, 47, 48, 49, 50, 51, 52, 53, 54, 55, 56, 57, 58, 59, 60, 61, 62, 63, 64, 65, 66, 67, 68, 69, 70, 71, 72, 73, 74, 75, 76, 77, 78, 79, 80, 81, 82, 83, 84, 85, 86, 87, 88, 89, 90, 91, 92, 93, 94, 95, 97, 98, 99, 100, 101, 102, 103, 104, 105, 106, 107, 108, 109, 110, 111, 112, 113, 114, 115, 116, 117, 118, 119, 120, 121, 122, 123, 124, 125, 126]))) .nil)))
(.cons (.raise 1 [] .nil)
.nil)
.nil)
(.cons (.ifS (.tab .has "EXTENDED" tb_EXTENDED (.var 0) (.lit .non))
(.cons (.ret (.lst false (.cons (.glb "ESCAPE" (.int 27)) (.cons (.tab .item "EXTENDED" tb_EXTENDED (.var 0) (.lit .non)) .nil))))
.nil)
.nil)
(.cons (.ret (.lst false (.cons (.tab .get2 "MOVED" tb_MOVED (.var 0) (.op .ord false (.cons (.var 0) .nil))) .nil)))
.nil)))
def n_write_sign : List Str := ["sign"]
/-- single_signs: 0 sign -/
abbrev t_single_signs : Stmt := top 10
def d_single_signs : Ss := (.cons (.ret (.dcomp [("sign", 0)] (.op .ix false (.cons (.call 0 (.cons (.var 0) .nil)) (.cons (.lit (.int 0)) .nil))) (.var 0) (.nm 0) .ex (.cons (.glb "SIGNS" (.str (tx [10, 32, 33, 34, 35, 36, 38, 39, 40, 41, 42, 43, 44, 45, 46, 47, 48, 49, 50, 51, 52, 53, 54, 55, 56, 57, 58, 59, 60, 61, 62, 63, 64, 65, 66, 67, 68, 69, 70, 71, 72, 73, 74, 75, 76, 77, 78, 79, 80, 81, 82, 83, 84, 85, 86, 87, 88, 89, 90, 91, 92, 93, 94, 95, 97, 98, 99, 100, 101, 102, 103, 104, 105, 106, 107, 108, 109, 110, 111, 112, 113, 114, 115, 116, 117, 118, 119, 120, 121, 122, 123, 124, 125, 126]))) .nil) (.cons (.tab .hasnt "EXTENDED" tb_EXTENDED (.var 0) (.lit .non)) .nil)))
.nil)
def n_single_signs : List Str := ["sign"]
/-- double_signs: 0 sign -/
abbrev t_double_signs : Stmt := top 11
def d_double_signs : Ss := (.cons (.ret (.dcomp [("sign", 0)] (.tab .item "EXTENDED" tb_EXTENDED (.var 0) (.lit .non)) (.var 0) (.nm 0) (.keys "EXTENDED" (tb_EXTENDED.map (·.1))) .nil .nil))
.nil)
def n_double_signs : List Str := ["sign"]
/-- text_of: 0 row, 1 single, 2 double, 3 text, 4 escaped, 5 septet -/
def d_text_of_l1 : Ss := (.cons (.ifS (.var 4)
(.cons (.asg (.nm 3) (.op .add false (.cons (.var 3) (.cons (.meth .get2 false (.var 2) (.cons (.var 5) (.cons (.lit (.str (tx [63]))) .nil))) .nil))))
(.cons (.asg (.nm 4) (.lit (.bl false)))
.nil))
(.cons (.ifS (.op .eq false (.cons (.var 5) (.cons (.glb "ESCAPE" (.int 27)) .nil)))
(.cons (.asg (.nm 4) (.lit (.bl true)))
.nil)
(.cons (.asg (.nm 3) (.op .add false (.cons (.var 3) (.cons (.meth .get2 false (.var 1) (.cons (.var 5) (.cons (.lit (.str (tx [63]))) .nil))) .nil))))
.nil))
.nil))
.nil)
abbrev t_text_of : Stmt := top 12
def d_text_of : Ss := (.cons (.asg (.nm 1) (.call 1 .nil))
(.cons (.asg (.nm 2) (.call 2 .nil))
(.cons (.asg (.nm 3) (.lit (.str (tx []))))
(.cons (.asg (.nm 4) (.lit (.bl false)))
(.cons (.forS (.nm 5) .ex (.cons (.var 0) .nil)
d_text_of_l1
[5])
(.cons (.ifS (.var 4)
(.cons (.asg (.nm 3) (.op .add false (.cons (.var 3) (.cons (.lit (.str (tx [63]))) .nil))))
.nil)
.nil)
(.cons (.ret (.var 3))
.nil)))))))
def n_text_of : List Str := ["row", "single", "double", "text", "escaped", "septet"]
/-- septets: 0 text, 1 row, 2 sign -/
def d_septets_l1 : Ss := (.cons (.exp (.meth .extend false (.var 1) (.cons (.call 0 (.cons (.var 2) .nil)) .nil)))
.nil)
abbrev t_septets : Stmt := top 9
def d_septets : Ss := (.cons (.asg (.nm 1) (.lst true .nil))
(.cons (.forS (.nm 2) .ex (.cons (.var 0) .nil)
d_septets_l1
[2])
(.cons (.ret (.var 1))
.nil)))
def n_septets : List Str := ["text", "row", "sign"]
/-- _law_signs: 0 _law_signs_here -/
abbrev t__law_signs : Stmt := top 15
def d__law_signs : Ss := (.cons (.asg (.nm 0) (.lit (.str (tx [32, 33, 34, 35, 36, 38, 39, 40, 41, 42, 43, 44, 45, 46, 47, 48, 49, 50, 51, 52, 53, 54, 55, 56, 57, 58, 59, 60, 61, 62, 63, 64, 65, 66, 67, 68, 69, 70, 71, 72, 73, 74, 75, 76, 77, 78, 79, 80, 81, 82, 83, 84, 85, 86, 87, 88, 89, 90, 91, 92, 93, 94, 95, 97, 98, 99, 100, 101, 102, 103, 104, 105, 106, 107, 108, 109, 110, 111, 112, 113, 114, 115, 116, 117, 118, 119, 120, 121, 122, 123, 124, 125, 126]))))
(.cons (.ret (.op .add false (.cons (.var 0) (.cons (.lit (.str (tx [10]))) .nil))))
.nil))
def n__law_signs : List Str := ["_law_signs_here"]
/-- _law_septets: 0 _law_text_here, 1 _law_pairs, 2 _law_moved, 3 _law_row, 4 _law_sign -/
def d__law_septets_l1 : Ss := (.cons (.ifS (.op .din false (.cons (.var 4) (.cons (.var 1) .nil)))
(.cons (.asg (.nm 3) (.op .add true (.cons (.var 3) (.cons (.lst false (.cons (.lit (.int 27)) (.cons (.op .dix false (.cons (.var 1) (.cons (.var 4) .nil))) .nil))) .nil))))
.nil)
(.cons (.exp (.meth .append false (.var 3) (.cons (.meth .get2 false (.var 2) (.cons (.var 4) (.cons (.op .ord false (.cons (.var 4) .nil)) .nil))) .nil)))
.nil))
.nil)
abbrev t__law_septets : Stmt := top 16
def d__law_septets : Ss := (.cons (.asg (.nm 1) (.disp (.cons (.lit (.str (tx [94]))) (.cons (.lit (.int 20)) (.cons (.lit (.str (tx [123]))) (.cons (.lit (.int 40)) (.cons (.lit (.str (tx [125]))) (.cons (.lit (.int 41)) (.cons (.lit (.str (tx [92]))) (.cons (.lit (.int 47)) (.cons (.lit (.str (tx [91]))) (.cons (.lit (.int 60)) (.cons (.lit (.str (tx [126]))) (.cons (.lit (.int 61)) (.cons (.lit (.str (tx [93]))) (.cons (.lit (.int 62)) (.cons (.lit (.str (tx [124]))) (.cons (.lit (.int 64)) .nil))))))))))))))))))
(.cons (.asg (.nm 2) (.disp (.cons (.lit (.str (tx [64]))) (.cons (.lit (.int 0)) (.cons (.lit (.str (tx [36]))) (.cons (.lit (.int 2)) (.cons (.lit (.str (tx [95]))) (.cons (.lit (.int 17)) .nil))))))))
(.cons (.asg (.nm 3) (.lst true .nil))
(.cons (.forS (.nm 4) .ex (.cons (.var 0) .nil)
d__law_septets_l1
[4])
(.cons (.ret (.frz (.var 3)))
.nil)))))
def n__law_septets : List Str := ["_law_text_here", "_law_pairs", "_law_moved", "_law_row", "_law_sign"]
/-- _law_table: 0 _law_table_here, 1 _law_sign -/
def d__law_table_l1 : Ss := (.cons (.asg (.dsub (.var 0) (.op .tuple_ false (.cons (.call 6 (.cons (.var 1) .nil)) .nil))) (.var 1))
.nil)
abbrev t__law_table : Stmt := top 18
def d__law_table : Ss := (.cons (.asg (.nm 0) (.newD true))
(.cons (.forS (.nm 1) .ex (.cons (.call 5 .nil) .nil)
d__law_table_l1
[1])
(.cons (.ret (.var 0))
.nil)))
def n__law_table : List Str := ["_law_table_here", "_law_sign"]
/-- _law_mixed: 0 _law_cell, 1 _law_turn, 2 _law_value, 3 _law_first, 4 _law_second, 5 _law_third -/
abbrev t__law_mixed : Stmt := top 14
def d__law_mixed : Ss := (.cons (.asg (.nm 2) (.op .int_ false (.cons (.var 0) .nil)))
(.cons (.ifS (.op .ge false (.cons (.var 2) (.cons (.op .pow false (.cons (.lit (.int 10)) (.cons (.lit (.int 18)) .nil))) .nil)))
(.cons (.ret (.var 2))
.nil)
.nil)
(.cons (.asg (.nm 3) (.op .mod false (.cons (.op .add false (.cons (.op .mul false (.cons (.op .mod false (.cons (.var 2) (.cons (.lit (.int 1000003)) .nil))) (.cons (.lit (.int 48271)) .nil))) (.cons (.op .mul false (.cons (.lit (.int 69621)) (.cons (.op .add false (.cons (.var 1) (.cons (.lit (.int 1)) .nil))) .nil))) .nil))) (.cons (.lit (.int 2147483647)) .nil))))
(.cons (.asg (.nm 4) (.op .mod false (.cons (.op .add false (.cons (.op .mul false (.cons (.var 3) (.cons (.lit (.int 48271)) .nil))) (.cons (.op .mod false (.cons (.var 2) (.cons (.lit (.int 999983)) .nil))) .nil))) (.cons (.lit (.int 2147483647)) .nil))))
(.cons (.asg (.nm 5) (.op .mod false (.cons (.op .add false (.cons (.op .mul false (.cons (.var 4) (.cons (.lit (.int 69621)) .nil))) (.cons (.var 3) .nil))) (.cons (.lit (.int 2147483647)) .nil))))
(.cons (.ret (.op .add false (.cons (.op .add false (.cons (.var 3) (.cons (.op .mul false (.cons (.lit (.int 2147483647)) (.cons (.var 4) .nil))) .nil))) (.cons (.op .mul false (.cons (.lit (.int 4611686014132420609)) (.cons (.var 5) .nil))) .nil))))
.nil))))))
def n__law_mixed : List Str := ["_law_cell", "_law_turn", "_law_value", "_law_first", "_law_second", "_law_third"]
/-- _law_text: 0 _law_value, 1 _law_most, 2 _law_signs_here, 3 _law_many, 4 _law_doubles, 5 _law_text_here, 6 _law_k, 7 _law_step -/
def d__law_text_l1 : Ss := (.cons (.asg (.nm 7) (.op .mod false (.cons (.op .add false (.cons (.op .fdiv false (.cons (.var 0) (.cons (.lit (.int 95)) .nil))) (.cons (.op .mul false (.cons (.op .mul false (.cons (.var 6) (.cons (.var 6) .nil))) (.cons (.op .add false (.cons (.lit (.int 1)) (.cons (.op .mod false (.cons (.var 0) (.cons (.lit (.int 89)) .nil))) .nil))) .nil))) .nil))) (.cons (.lit (.int 997)) .nil))))
(.cons (.ifS (.andE (.op .eq false (.cons (.op .mod false (.cons (.var 0) (.cons (.lit (.int 3)) .nil))) (.cons (.lit (.int 0)) .nil))) (.op .eq false (.cons (.op .mod false (.cons (.var 7) (.cons (.lit (.int 2)) .nil))) (.cons (.lit (.int 0)) .nil))))
(.cons (.asg (.nm 5) (.op .add false (.cons (.var 5) (.cons (.op .ix false (.cons (.var 4) (.cons (.op .mod false (.cons (.op .fdiv false (.cons (.var 7) (.cons (.lit (.int 2)) .nil))) (.cons (.lit (.int 8)) .nil))) .nil))) .nil))))
.nil)
(.cons (.asg (.nm 5) (.op .add false (.cons (.var 5) (.cons (.op .ix false (.cons (.var 2) (.cons (.op .mod false (.cons (.op .add false (.cons (.var 0) (.cons (.op .mul false (.cons (.var 7) (.cons (.var 6) .nil))) .nil))) (.cons (.lit (.int 94)) .nil))) .nil))) .nil))))
.nil))
.nil))
abbrev t__law_text : Stmt := top 17
def d__law_text : Ss := (.cons (.asg (.nm 2) (.call 5 .nil))
(.cons (.asg (.nm 3) (.op .mod false (.cons (.var 0) (.cons (.op .add false (.cons (.var 1) (.cons (.lit (.int 1)) .nil))) .nil))))
(.cons (.asg (.nm 0) (.op .fdiv false (.cons (.var 0) (.cons (.op .add false (.cons (.var 1) (.cons (.lit (.int 1)) .nil))) .nil))))
(.cons (.asg (.nm 4) (.lit (.str (tx [94, 123, 125, 91, 126, 93, 124, 92]))))
(.cons (.asg (.nm 5) (.lit (.str (tx []))))
(.cons (.forS (.nm 6) .rng1 (.cons (.var 3) .nil)
d__law_text_l1
[6, 7])
(.cons (.ret (.var 5))
.nil)))))))
def n__law_text : List Str := ["_law_value", "_law_most", "_law_signs_here", "_law_many", "_law_doubles", "_law_text_here", "_law_k", "_law_step"]
/-- _law_refused: 0 _law_text_here -/
abbrev t__law_refused : Stmt := top 20
def d__law_refused : Ss := (.cons (.tryS
(.cons (.exp (.call 4 (.cons (.var 0) .nil)))
.nil)
(.cons 1 none
(.cons (.ret (.lit (.bl true)))
.nil)
.nil))
(.cons (.ret (.lit (.bl false)))
.nil))
def n__law_refused : List Str := ["_law_text_here"]
/-- _law_read: 0 _law_table_here, 1 _law_row, 2 _law_text_here, 3 _law_k, 4 _law_spare, 5 _law_size -/
def d__law_read_l1 : Ss := (.cons (.ifS (.op .lt false (.cons (.var 3) (.cons (.op .len false (.cons (.var 1) .nil)) .nil)))
(.cons (.asg (.nm 5) (.lit (.int 1)))
(.cons (.ifS (.andE (.op .eq false (.cons (.op .ix false (.cons (.var 1) (.cons (.var 3) .nil))) (.cons (.lit (.int 27)) .nil))) (.op .lt false (.cons (.op .add false (.cons (.var 3) (.cons (.lit (.int 1)) .nil))) (.cons (.op .len false (.cons (.var 1) .nil)) .nil))))
(.cons (.asg (.nm 5) (.lit (.int 2)))
.nil)
.nil)
(.cons (.asg (.nm 2) (.op .add false (.cons (.var 2) (.cons (.meth .get2 false (.var 0) (.cons (.op .tuple_ false (.cons (.sl3 false (.var 1) (.var 3) (.op .add false (.cons (.var 3) (.cons (.var 5) .nil)))) .nil)) (.cons (.lit (.str (tx [63]))) .nil))) .nil))))
(.cons (.asg (.nm 3) (.op .add false (.cons (.var 3) (.cons (.var 5) .nil))))
.nil))))
.nil)
.nil)
abbrev t__law_read : Stmt := top 19
def d__law_read : Ss := (.cons (.asg (.nm 2) (.lit (.str (tx []))))
(.cons (.asg (.nm 3) (.lit (.int 0)))
(.cons (.forS (.nm 4) .rng1 (.cons (.op .len false (.cons (.var 1) .nil)) .nil)
d__law_read_l1
[4, 5])
(.cons (.ret (.var 2))
.nil))))
def n__law_read : List Str := ["_law_table_here", "_law_row", "_law_text_here", "_law_k", "_law_spare", "_law_size"]
/-- law: 0 _law_script, 1 _law_table_here, 2 _law_turn, 3 _law_cell, 4 _law_value, 5 _law_text_here, 6 _law_row, 7 _law_back, 8 _law_at, 9 _law_k, 10 _law_kept -/
def d_law_l1 : Ss := (.cons (.ifS (.andE (.op .eq false (.cons (.op .mod false (.cons (.op .fdiv false (.cons (.var 4) (.cons (.lit (.int 11)) .nil))) (.cons (.lit (.int 2)) .nil))) (.cons (.lit (.int 1)) .nil))) (.op .eq false (.cons (.op .mod false (.cons (.var 9) (.cons (.lit (.int 3)) .nil))) (.cons (.op .mod false (.cons (.var 4) (.cons (.lit (.int 3)) .nil))) .nil))))
(.cons (.asg (.sub (.var 6) (.var 9)) (.lit (.int 27)))
.nil)
.nil)
.nil)
def d_law_l2 : Ss := (.cons (.asg (.nm 4) (.call 8 (.cons (.var 3) (.cons (.var 2) .nil))))
(.cons (.asg (.nm 5) (.call 9 (.cons (.var 4) (.cons (.lit (.int 40)) .nil))))
(.cons (.asg (.nm 6) (.call 4 (.cons (.var 5) .nil)))
(.cons (.ifS (.orE (.notE (.op (.isinst .list) false (.cons (.var 6) .nil))) (.op .ne false (.cons (.var 6) (.cons (.call 6 (.cons (.var 5) .nil)) .nil))))
(.cons (.ret (.lit (.bl false)))
.nil)
.nil)
(.cons (.asg (.nm 7) (.call 3 (.cons (.op .list_ false (.cons (.var 6) .nil)) .nil)))
(.cons (.ifS (.orE (.notE (.op (.isinst .str) false (.cons (.var 7) .nil))) (.op .ne false (.cons (.var 7) (.cons (.var 5) .nil))))
(.cons (.ret (.lit (.bl false)))
.nil)
.nil)
(.cons (.asg (.nm 8) (.op .mod false (.cons (.op .fdiv false (.cons (.var 4) (.cons (.lit (.int 7)) .nil))) (.cons (.op .add false (.cons (.op .len false (.cons (.var 5) .nil)) (.cons (.lit (.int 1)) .nil))) .nil))))
(.cons (.ifS (.notE (.call 10 (.cons (.op .add false (.cons (.op .add false (.cons (.op .sl01 false (.cons (.var 5) (.cons (.var 8) .nil))) (.cons (.lit (.str (tx [96]))) .nil))) (.cons (.op .sl10 false (.cons (.var 5) (.cons (.var 8) .nil))) .nil))) .nil)))
(.cons (.ret (.lit (.bl false)))
.nil)
.nil)
(.cons (.asg (.nm 6) (.comp true [("_law_k", 9)] (.op .mod false (.cons (.op .add false (.cons (.op .fdiv false (.cons (.var 4) (.cons (.op .add false (.cons (.var 9) (.cons (.lit (.int 1)) .nil))) .nil))) (.cons (.op .mul false (.cons (.lit (.int 3)) (.cons (.var 9) .nil))) .nil))) (.cons (.lit (.int 128)) .nil))) (.nm 9) .rng1 (.cons (.op .mod false (.cons (.op .fdiv false (.cons (.var 4) (.cons (.lit (.int 5)) .nil))) (.cons (.lit (.int 21)) .nil))) .nil) .nil))
(.cons (.forS (.nm 9) .rng1 (.cons (.op .len false (.cons (.var 6) .nil)) .nil)
d_law_l1
[9])
(.cons (.asg (.nm 10) (.op .list_ false (.cons (.var 6) .nil)))
(.cons (.ifS (.orE (.op .ne false (.cons (.call 3 (.cons (.var 6) .nil)) (.cons (.call 11 (.cons (.var 1) (.cons (.var 10) .nil))) .nil))) (.op .ne false (.cons (.var 6) (.cons (.var 10) .nil))))
(.cons (.ret (.lit (.bl false)))
.nil)
.nil)
.nil))))))))))))
abbrev t_law : Stmt := top 21
def d_law : Ss := (.cons (.ifS (.orE (.op .ne false (.cons (.call 4 (.cons (.lit (.str (tx []))) .nil)) (.cons (.lst false .nil) .nil))) (.op .ne false (.cons (.call 3 (.cons (.lst false .nil) .nil)) (.cons (.lit (.str (tx []))) .nil))))
(.cons (.ret (.lit (.bl false)))
.nil)
.nil)
(.cons (.asg (.nm 1) (.call 7 .nil))
(.cons (.forS (.tup (.cons (.nm 2) (.cons (.nm 3) .nil))) .enum (.cons (.op .sl01 false (.cons (.var 0) (.cons (.lit (.int 30)) .nil))) .nil)
d_law_l2
[2, 3, 4, 5, 6, 7, 8, 9, 10])
(.cons (.ret (.lit (.bl true)))
.nil))))
def n_law : List Str := ["_law_script", "_law_table_here", "_law_turn", "_law_cell", "_law_value", "_law_text_here", "_law_row", "_law_back", "_law_at", "_law_k", "_law_kept"]
@[simp] def xMobileError : Nat := 0
@[simp] def xBadText : Nat := 1
def T0 : Tb := { fns := [], exs := [("MobileError", [], 1), ("BadText", [], 1)], xm := [], na := [], glb := [("ESCAPE", (.int 27)), ("SIGNS", (.str (tx [10, 32, 33, 34, 35, 36, 38, 39, 40, 41, 42, 43, 44, 45, 46, 47, 48, 49, 50, 51, 52, 53, 54, 55, 56, 57, 58, 59, 60, 61, 62, 63, 64, 65, 66, 67, 68, 69, 70, 71, 72, 73, 74, 75, 76, 77, 78, 79, 80, 81, 82, 83, 84, 85, 86, 87, 88, 89, 90, 91, 92, 93, 94, 95, 97, 98, 99, 100, 101, 102, 103, 104, 105, 106, 107, 108, 109, 110, 111, 112, 113, 114, 115, 116, 117, 118, 119, 120, 121, 122, 123, 124, 125, 126])))], bi := ["enumerate", "int", "isinstance", "len", "list", "ord", "range", "str", "tuple"], tb := [("EXTENDED", tb_EXTENDED), ("MOVED", tb_MOVED)] }
def T1 : Tb := { T0 with fns := T0.fns ++ [.fn "write_sign" 1 1] }
def T2 : Tb := { T1 with fns := T1.fns ++ [.fn "single_signs" 0 2] }
def T3 : Tb := { T2 with fns := T2.fns ++ [.fn "double_signs" 0 1] }
def T4 : Tb := { T3 with fns := T3.fns ++ [.fn "text_of" 1 3] }
def T5 : Tb := { T4 with fns := T4.fns ++ [.fn "septets" 1 2] }
def T6 : Tb := { T5 with fns := T5.fns ++ [.fn "_law_signs" 0 1] }
def T7 : Tb := { T6 with fns := T6.fns ++ [.fn "_law_septets" 1 1] }
def T8 : Tb := { T7 with fns := T7.fns ++ [.fn "_law_table" 0 2] }
def T9 : Tb := { T8 with fns := T8.fns ++ [.fn "_law_mixed" 2 1] }
def T10 : Tb := { T9 with fns := T9.fns ++ [.fn "_law_text" 2 2] }
def T11 : Tb := { T10 with fns := T10.fns ++ [.fn "_law_refused" 1 3] }
def T12 : Tb := { T11 with fns := T11.fns ++ [.fn "_law_read" 2 1] }
theorem c_write_sign : chkSs T0 { N := n_write_sign, sc := defScope t_write_sign, k := 0 } d_write_sign (defBody t_write_sign) = true := by decide +kernel
theorem s_write_sign : FnScope n_write_sign ["sign"] (defScope t_write_sign) := ⟨rfl, rfl, rfl, by decide +kernel, rfl, by decide +kernel, by decide +kernel⟩
theorem c_single_signs : chkSs T1 { N := n_single_signs, sc := defScope t_single_signs, k := 1 } d_single_signs (defBody t_single_signs) = true := by decide +kernel
theorem s_single_signs : FnScope n_single_signs [] (defScope t_single_signs) := ⟨rfl, rfl, rfl, by decide +kernel, rfl, by decide +kernel, by decide +kernel⟩
theorem c_double_signs : chkSs T2 { N := n_double_signs, sc := defScope t_double_signs, k := 0 } d_double_signs (defBody t_double_signs) = true := by decide +kernel
theorem s_double_signs : FnScope n_double_signs [] (defScope t_double_signs) := ⟨rfl, rfl, rfl, by decide +kernel, rfl, by decide +kernel, by decide +kernel⟩
theorem c_text_of : chkSs T3 { N := n_text_of, sc := defScope t_text_of, k := 2 } d_text_of (defBody t_text_of) = true := by decide +kernel
theorem s_text_of : FnScope n_text_of ["row"] (defScope t_text_of) := ⟨rfl, rfl, rfl, by decide +kernel, rfl, by decide +kernel, by decide +kernel⟩
theorem c_septets : chkSs T4 { N := n_septets, sc := defScope t_septets, k := 1 } d_septets (defBody t_septets) = true := by decide +kernel
theorem s_septets : FnScope n_septets ["text"] (defScope t_septets) := ⟨rfl, rfl, rfl, by decide +kernel, rfl, by decide +kernel, by decide +kernel⟩
theorem c__law_signs : chkSs T5 { N := n__law_signs, sc := defScope t__law_signs, k := 0 } d__law_signs (defBody t__law_signs) = true := by decide +kernel
theorem s__law_signs : FnScope n__law_signs [] (defScope t__law_signs) := ⟨rfl, rfl, rfl, by decide +kernel, rfl, by decide +kernel, by decide +kernel⟩
theorem c__law_septets : chkSs T6 { N := n__law_septets, sc := defScope t__law_septets, k := 0 } d__law_septets (defBody t__law_septets) = true := by decide +kernel
theorem s__law_septets : FnScope n__law_septets ["_law_text_here"] (defScope t__law_septets) := ⟨rfl, rfl, rfl, by decide +kernel, rfl, by decide +kernel, by decide +kernel⟩
theorem c__law_table : chkSs T7 { N := n__law_table, sc := defScope t__law_table, k := 1 } d__law_table (defBody t__law_table) = true := by decide +kernel
theorem s__law_table : FnScope n__law_table [] (defScope t__law_table) := ⟨rfl, rfl, rfl, by decide +kernel, rfl, by decide +kernel, by decide +kernel⟩
theorem c__law_mixed : chkSs T8 { N := n__law_mixed, sc := defScope t__law_mixed, k := 0 } d__law_mixed (defBody t__law_mixed) = true := by decide +kernel
theorem s__law_mixed : FnScope n__law_mixed ["_law_cell", "_law_turn"] (defScope t__law_mixed) := ⟨rfl, rfl, rfl, by decide +kernel, rfl, by decide +kernel, by decide +kernel⟩
theorem c__law_text : chkSs T9 { N := n__law_text, sc := defScope t__law_text, k := 1 } d__law_text (defBody t__law_text) = true := by decide +kernel
theorem s__law_text : FnScope n__law_text ["_law_value", "_law_most"] (defScope t__law_text) := ⟨rfl, rfl, rfl, by decide +kernel, rfl, by decide +kernel, by decide +kernel⟩
theorem c__law_refused : chkSs T10 { N := n__law_refused, sc := defScope t__law_refused, k := 2 } d__law_refused (defBody t__law_refused) = true := by decide +kernel
theorem s__law_refused : FnScope n__law_refused ["_law_text_here"] (defScope t__law_refused) := ⟨rfl, rfl, rfl, by decide +kernel, rfl, by decide +kernel, by decide +kernel⟩
theorem c__law_read : chkSs T11 { N := n__law_read, sc := defScope t__law_read, k := 0 } d__law_read (defBody t__law_read) = true := by decide +kernel
theorem s__law_read : FnScope n__law_read ["_law_table_here", "_law_row"] (defScope t__law_read) := ⟨rfl, rfl, rfl, by decide +kernel, rfl, by decide +kernel, by decide +kernel⟩
theorem c_law : chkSs T12 { N := n_law, sc := defScope t_law, k := 3 } d_law (defBody t_law) = true := by decide +kernel
theorem s_law : FnScope n_law ["_law_script"] (defScope t_law) := ⟨rfl, rfl, rfl, by decide +kernel, rfl, by decide +kernel, by decide +kernel⟩
end Lw
namespace Lw
open PySem L2 Mo
def mixed (c t : Int) : Int := if c ≥ 10 ^ 18 then c else
  let f := (c % 1000003 * 48271 + 69621 * (t + 1)) % 2147483647
  let s := (f * 48271 + c % 999983) % 2147483647
  let u := (s * 69621 + f) % 2147483647
  f + 2147483647 * s + 4611686014132420609 * u
def C__law_mixed : Ctr := fun ds M => match ds with
  | [.int c, .int t] => if 0 ≤ t ∧ t ≤ 1000 then some (.ok (.int (mixed c t)) M) else none
  | _ => none
def cellP (ns : List Int) (k : Nat) : Int := mixed (ns.getD k 0) k
/-- a sign's septets -/
def extN (c : Nat) : Option Int := if c = 94 then some 20 else if c = 123 then some 40 else if c = 125 then some 41 else if c = 92 then some 47 else if c = 91 then some 60 else if c = 126 then some 61 else if c = 93 then some 62 else if c = 124 then some 64 else none
def movN (c : Nat) : Int := if c = 64 then 0 else if c = 36 then 2 else if c = 95 then 17 else (c : Int)
def sgI (c : Nat) : List Int := match extN c with
  | some e => [27, e]
  | none => [movN c]
def sepI (a : List Nat) : List Int := a.flatMap sgI
def sgl : List Nat := [10, 32, 33, 34, 35, 36, 38, 39, 40, 41, 42, 43, 44, 45, 46, 47, 48, 49, 50, 51, 52, 53, 54, 55, 56, 57, 58, 59, 60, 61, 62, 63, 64, 65, 66, 67, 68, 69, 70, 71, 72, 73, 74, 75, 76, 77, 78, 79, 80, 81, 82, 83, 84, 85, 86, 87, 88, 89, 90, 91, 92, 93, 94, 95, 97, 98, 99, 100, 101, 102, 103, 104, 105, 106, 107, 108, 109, 110, 111, 112, 113, 114, 115, 116, 117, 118, 119, 120, 121, 122, 123, 124, 125, 126]

end Lw
namespace Lw
open PySem L2 Mo
noncomputable def EV_0 : Ev := { exn := 2, fn := fun _ _ _ => none }
noncomputable def C_write_sign : Ctr := evF EV_0 1 d_write_sign
noncomputable def EV_1 : Ev := EV_0.snoc 0 (arC 1 C_write_sign)
noncomputable def C_single_signs : Ctr := evF EV_1 1 d_single_signs
noncomputable def EV_2 : Ev := EV_1.snoc 1 (arC 0 C_single_signs)
noncomputable def C_double_signs : Ctr := evF EV_2 1 d_double_signs
noncomputable def EV_3 : Ev := EV_2.snoc 2 (arC 0 C_double_signs)
noncomputable def C_text_of : Ctr := evF EV_3 6 d_text_of
noncomputable def EV_4 : Ev := EV_3.snoc 3 (arC 1 C_text_of)
noncomputable def C_septets : Ctr := evF EV_4 3 d_septets
noncomputable def EV_5 : Ev := EV_4.snoc 4 (arC 1 C_septets)
noncomputable def C__law_signs : Ctr := evF EV_5 1 d__law_signs
noncomputable def EV_6 : Ev := EV_5.snoc 5 (arC 0 C__law_signs)
noncomputable def C__law_septets : Ctr := evF EV_6 5 d__law_septets
noncomputable def EV_7 : Ev := EV_6.snoc 6 (arC 1 C__law_septets)
noncomputable def C__law_table : Ctr := evF EV_7 2 d__law_table
noncomputable def EV_8 : Ev := EV_7.snoc 7 (arC 0 C__law_table)
noncomputable def EV_9 : Ev := EV_8.snoc 8 (arC 2 C__law_mixed)
noncomputable def C__law_text : Ctr := evF EV_9 8 d__law_text
noncomputable def EV_10 : Ev := EV_9.snoc 9 (arC 2 C__law_text)
noncomputable def C__law_refused : Ctr := evF EV_10 1 d__law_refused
noncomputable def EV_11 : Ev := EV_10.snoc 10 (arC 1 C__law_refused)
noncomputable def C__law_read : Ctr := evF EV_11 6 d__law_read
noncomputable def EV_12 : Ev := EV_11.snoc 11 (arC 2 C__law_read)
noncomputable def EV : Ev := EV_12
@[simp] theorem ev0 : EV.fn 0 = arC 1 C_write_sign := rfl
@[simp] theorem ev1 : EV.fn 1 = arC 0 C_single_signs := rfl
@[simp] theorem ev2 : EV.fn 2 = arC 0 C_double_signs := rfl
@[simp] theorem ev3 : EV.fn 3 = arC 1 C_text_of := rfl
@[simp] theorem ev4 : EV.fn 4 = arC 1 C_septets := rfl
@[simp] theorem ev5 : EV.fn 5 = arC 0 C__law_signs := rfl
@[simp] theorem ev6 : EV.fn 6 = arC 1 C__law_septets := rfl
@[simp] theorem ev7 : EV.fn 7 = arC 0 C__law_table := rfl
@[simp] theorem ev8 : EV.fn 8 = arC 2 C__law_mixed := rfl
@[simp] theorem ev9 : EV.fn 9 = arC 2 C__law_text := rfl
@[simp] theorem ev10 : EV.fn 10 = arC 1 C__law_refused := rfl
@[simp] theorem ev11 : EV.fn 11 = arC 2 C__law_read := rfl
theorem q_12 : EvEq 12 EV_12 EV := .self _ _
theorem q_11 : EvEq 11 EV_11 EV := EvEq.step q_12
theorem q_10 : EvEq 10 EV_10 EV := EvEq.step q_11
theorem q_9 : EvEq 9 EV_9 EV := EvEq.step q_10
theorem q_8 : EvEq 8 EV_8 EV := EvEq.step q_9
theorem q_7 : EvEq 7 EV_7 EV := EvEq.step q_8
theorem q_6 : EvEq 6 EV_6 EV := EvEq.step q_7
theorem q_5 : EvEq 5 EV_5 EV := EvEq.step q_6
theorem q_4 : EvEq 4 EV_4 EV := EvEq.step q_5
theorem q_3 : EvEq 3 EV_3 EV := EvEq.step q_4
theorem q_2 : EvEq 2 EV_2 EV := EvEq.step q_3
theorem q_1 : EvEq 1 EV_1 EV := EvEq.step q_2
theorem q_0 : EvEq 0 EV_0 EV := EvEq.step q_1
theorem o_write_sign : Ss.ok 0 d_write_sign = true := by decide +kernel
theorem e_write_sign : C_write_sign = evF EV 1 d_write_sign := evF_cg q_0 o_write_sign
theorem o_single_signs : Ss.ok 1 d_single_signs = true := by decide +kernel
theorem e_single_signs : C_single_signs = evF EV 1 d_single_signs := evF_cg q_1 o_single_signs
theorem o_double_signs : Ss.ok 2 d_double_signs = true := by decide +kernel
theorem e_double_signs : C_double_signs = evF EV 1 d_double_signs := evF_cg q_2 o_double_signs
theorem o_text_of : Ss.ok 3 d_text_of = true := by decide +kernel
theorem e_text_of : C_text_of = evF EV 6 d_text_of := evF_cg q_3 o_text_of
theorem o_septets : Ss.ok 4 d_septets = true := by decide +kernel
theorem e_septets : C_septets = evF EV 3 d_septets := evF_cg q_4 o_septets
theorem o__law_signs : Ss.ok 5 d__law_signs = true := by decide +kernel
theorem e__law_signs : C__law_signs = evF EV 1 d__law_signs := evF_cg q_5 o__law_signs
theorem o__law_septets : Ss.ok 6 d__law_septets = true := by decide +kernel
theorem e__law_septets : C__law_septets = evF EV 5 d__law_septets := evF_cg q_6 o__law_septets
theorem o__law_table : Ss.ok 7 d__law_table = true := by decide +kernel
theorem e__law_table : C__law_table = evF EV 2 d__law_table := evF_cg q_7 o__law_table
theorem o__law_text : Ss.ok 9 d__law_text = true := by decide +kernel
theorem e__law_text : C__law_text = evF EV 8 d__law_text := evF_cg q_9 o__law_text
theorem o__law_refused : Ss.ok 10 d__law_refused = true := by decide +kernel
theorem e__law_refused : C__law_refused = evF EV 1 d__law_refused := evF_cg q_10 o__law_refused
theorem o__law_read : Ss.ok 11 d__law_read = true := by decide +kernel
theorem e__law_read : C__law_read = evF EV 6 d__law_read := evF_cg q_11 o__law_read
noncomputable abbrev B_single_signs_c1 (n : Nat) (δ : Sl) := dcompB EV [0] (.nm 0) (.cons (.tab .hasnt "EXTENDED" tb_EXTENDED (.var 0) (.lit .non)) .nil) (.op .ix false (.cons (.call 0 (.cons (.var 0) .nil)) (.cons (.lit (.int 0)) .nil))) (.var 0) n δ
noncomputable abbrev B_double_signs_c1 (n : Nat) (δ : Sl) := dcompB EV [0] (.nm 0) .nil (.tab .item "EXTENDED" tb_EXTENDED (.var 0) (.lit .non)) (.var 0) n δ
noncomputable abbrev F_text_of_l1 := forF EV (.nm 5) d_text_of_l1
abbrev K_text_of_l1 : List Nat := [5]
noncomputable abbrev F_septets_l1 := forF EV (.nm 2) d_septets_l1
abbrev K_septets_l1 : List Nat := [2]
noncomputable abbrev F__law_septets_l1 := forF EV (.nm 4) d__law_septets_l1
abbrev K__law_septets_l1 : List Nat := [4]
noncomputable abbrev F__law_table_l1 := forF EV (.nm 1) d__law_table_l1
abbrev K__law_table_l1 : List Nat := [1]
noncomputable abbrev F__law_text_l1 := forF EV (.nm 6) d__law_text_l1
abbrev K__law_text_l1 : List Nat := [6, 7]
noncomputable abbrev F__law_read_l1 := forF EV (.nm 4) d__law_read_l1
abbrev K__law_read_l1 : List Nat := [4, 5]
noncomputable abbrev B_law_c1 (δ : Sl) := compB EV [9] (.nm 9) .nil (.op .mod false (.cons (.op .add false (.cons (.op .fdiv false (.cons (.var 4) (.cons (.op .add false (.cons (.var 9) (.cons (.lit (.int 1)) .nil))) .nil))) (.cons (.op .mul false (.cons (.lit (.int 3)) (.cons (.var 9) .nil))) .nil))) (.cons (.lit (.int 128)) .nil))) δ
noncomputable abbrev F_law_l1 := forF EV (.nm 9) d_law_l1
abbrev K_law_l1 : List Nat := [9]
noncomputable abbrev F_law_l2 := forF EV (.tup (.cons (.nm 2) (.cons (.nm 3) .nil))) d_law_l2
abbrev K_law_l2 : List Nat := [2, 3, 4, 5, 6, 7, 8, 9, 10]
@[simp] theorem evx : EV.cx = none := rfl
@[simp] theorem evn : EV.exn = 2 := rfl
end Lw
namespace Lw
open PySem L2 Mo
theorem mixed_eq {c : Int} {t : Nat} {M : Store} (h : t ≤ 1000) : C__law_mixed [.int c, .int (t : Int)] M = some (.ok (.int (mixed c t)) M) := by
  unfold C__law_mixed
  exact if_pos ⟨by omega, by omega⟩
theorem p__law_mixed : Cln 2 C__law_mixed (evF EV 6 d__law_mixed) := fun ds M hl hM hb => by
  unfold C__law_mixed
  split
  · split
    · rename_i c t ht
      refine cl_ok hM rfl ⟨[], ?_⟩
      have h1 : okMul 69621 (t + 1) = true := okMul_of (by decide) (by omega)
      simp [evF_eq, d__law_mixed, h1, mixed]
      split <;> rfl
    · trivial
  · trivial

theorem mixed_nonneg (c t : Int) : 0 ≤ mixed c t := by
  unfold mixed
  split
  · have : (10 : Int) ^ 18 = 1000000000000000000 := by decide
    omega
  · dsimp only
    have h1 := Int.emod_nonneg (c % 1000003 * 48271 + 69621 * (t + 1)) (b := 2147483647) (by decide)
    generalize (c % 1000003 * 48271 + 69621 * (t + 1)) % 2147483647 = f at *
    have h2 := Int.emod_nonneg (f * 48271 + c % 999983) (b := 2147483647) (by decide)
    generalize (f * 48271 + c % 999983) % 2147483647 = g at *
    have h3 := Int.emod_nonneg (g * 69621 + f) (b := 2147483647) (by decide)
    generalize (g * 69621 + f) % 2147483647 = u at *
    omega
theorem numL_okT (n : Nat) : okT (TL.numL n) = true := by
  unfold okT
  rw [List.all_eq_true]
  intro c hc
  have := TL.numL_digits n c hc
  rw [decide_eq_true_eq]
  omega
theorem okT_rep (n : Nat) : okT (List.replicate n 48) = true := by
  unfold okT
  rw [List.all_eq_true]
  intro c hc
  rw [List.eq_of_mem_replicate hc]
  decide
theorem numL_last (n : Nat) : (TL.numL n).getLast? = some (48 + n % 10) := by
  by_cases h : n < 10
  · rw [TL.numL_lt h, Nat.mod_eq_of_lt h]; rfl
  · rw [TL.numL_step (by omega), List.getLast?_append]; rfl

/-! signs -/
theorem txb (a b : List Nat) : (tx a == tx b) = decide (a = b) := by
  rw [Bool.eq_iff_iff, beq_iff_eq, decide_eq_true_eq, tx_inj]
theorem ext_look (c : Nat) : lookT tb_EXTENDED (tx [c]) = (extN c).map D.int := by
  unfold lookT tb_EXTENDED extN
  simp only [List.find?_cons, txb, List.cons.injEq, and_true]
  by_cases h1 : 94 = c
  · subst h1; rfl
  by_cases h2 : 123 = c
  · subst h2; rfl
  by_cases h3 : 125 = c
  · subst h3; rfl
  by_cases h4 : 92 = c
  · subst h4; rfl
  by_cases h5 : 91 = c
  · subst h5; rfl
  by_cases h6 : 126 = c
  · subst h6; rfl
  by_cases h7 : 93 = c
  · subst h7; rfl
  by_cases h8 : 124 = c
  · subst h8; rfl
  rw [decide_eq_false h1, decide_eq_false h2, decide_eq_false h3, decide_eq_false h4, decide_eq_false h5, decide_eq_false h6, decide_eq_false h7, decide_eq_false h8, if_neg (Ne.symm h1), if_neg (Ne.symm h2), if_neg (Ne.symm h3), if_neg (Ne.symm h4), if_neg (Ne.symm h5), if_neg (Ne.symm h6), if_neg (Ne.symm h7), if_neg (Ne.symm h8)]
  rfl
theorem mov_look (c : Nat) : (lookT tb_MOVED (tx [c])).getD (.int (c : Int)) = .int (movN c) := by
  unfold lookT tb_MOVED movN
  simp only [List.find?_cons, txb, List.cons.injEq, and_true]
  by_cases h1 : 64 = c
  · subst h1; rfl
  by_cases h2 : 36 = c
  · subst h2; rfl
  by_cases h3 : 95 = c
  · subst h3; rfl
  rw [decide_eq_false h1, decide_eq_false h2, decide_eq_false h3, if_neg (Ne.symm h1), if_neg (Ne.symm h2), if_neg (Ne.symm h3)]
  rfl
theorem ws_ok {M : Store} {c : Nat} (hc : c ∈ sgl) : C_write_sign [.str (tx [c])] M = some (.ok (.lst ((sgI c).map D.int)) M) := by
  rw [e_write_sign]
  have e1 := ext_look c
  have e2 := mov_look c
  have q := inD_tx (M := M) c sgl
  rw [decide_eq_true hc] at q
  have q2 : pNotIn [.str (tx [c]), .str (tx sgl)] M = some (.v (.bl false) M) := by
    show (match inD M (.str (tx [c])) (.str (tx sgl)) with
      | some k => some (PO.v (.bl (!k)) M)
      | none => none) = _
    rw [q]; rfl
  unfold sgI
  have d : d_write_sign = (.cons (.ifS (.op .notIn false (.cons (.var 0) (.cons (.glb "SIGNS" (.str (tx sgl))) .nil))) (.cons (.raise 1 [] .nil) .nil) .nil) (.cons (.ifS (.tab .has "EXTENDED" tb_EXTENDED (.var 0) (.lit .non)) (.cons (.ret (.lst false (.cons (.glb "ESCAPE" (.int 27)) (.cons (.tab .item "EXTENDED" tb_EXTENDED (.var 0) (.lit .non)) .nil)))) .nil) .nil) (.cons (.ret (.lst false (.cons (.tab .get2 "MOVED" tb_MOVED (.var 0) (.op .ord false (.cons (.var 0) .nil))) .nil))) .nil))) := rfl
  rw [d]
  generalize sgl = sg at *
  generalize tb_EXTENDED = te at *
  generalize tb_MOVED = tm at *
  cases h : extN c with
  | some e =>
    rw [h] at e1
    simp [evF_eq, q2, e1, -pNotIn_eq]
  | none =>
    rw [h] at e1
    simp [evF_eq, q2, e1, e2, -pNotIn_eq]
theorem ws_bad {M : Store} {c : Nat} (hc : c ∉ sgl) : C_write_sign [.str (tx [c])] M = some (.exc ⟨xBadText, []⟩ M) := by
  rw [e_write_sign]
  have q := inD_tx (M := M) c sgl
  rw [decide_eq_false hc] at q
  have q2 : pNotIn [.str (tx [c]), .str (tx sgl)] M = some (.v (.bl true) M) := by
    show (match inD M (.str (tx [c])) (.str (tx sgl)) with
      | some k => some (PO.v (.bl (!k)) M)
      | none => none) = _
    rw [q]; rfl
  have d : d_write_sign = (.cons (.ifS (.op .notIn false (.cons (.var 0) (.cons (.glb "SIGNS" (.str (tx sgl))) .nil))) (.cons (.raise 1 [] .nil) .nil) .nil) (.cons (.ifS (.tab .has "EXTENDED" tb_EXTENDED (.var 0) (.lit .non)) (.cons (.ret (.lst false (.cons (.glb "ESCAPE" (.int 27)) (.cons (.tab .item "EXTENDED" tb_EXTENDED (.var 0) (.lit .non)) .nil)))) .nil) .nil) (.cons (.ret (.lst false (.cons (.tab .get2 "MOVED" tb_MOVED (.var 0) (.op .ord false (.cons (.var 0) .nil))) .nil))) .nil))) := rfl
  rw [d]
  generalize sgl = sg at *
  simp [evF_eq, q2, -pNotIn_eq]
theorem sgI_len (c : Nat) : (sgI c).length ≤ 2 := by
  unfold sgI
  split <;> simp
theorem sepI_len (a : List Nat) : (sepI a).length ≤ 2 * a.length := by
  induction a with
  | nil => simp [sepI]
  | cons c a ih =>
    have := sgI_len c
    unfold sepI at *
    rw [List.flatMap_cons, List.length_append, List.length_cons]
    omega
theorem sepI_snoc (a : List Nat) (c : Nat) : sepI (a ++ [c]) = sepI a ++ sgI c := by
  unfold sepI
  rw [List.flatMap_append, List.flatMap_cons, List.flatMap_nil, List.append_nil]
theorem movN_ne {c : Nat} (hc : c ∈ sgl) : movN c ≠ 27 := by
  unfold movN
  split
  · decide
  · split
    · decide
    · split
      · decide
      · intro e
        have e : c = 27 := by omega
        subst e
        exact absurd hc (by decide)
def exK : List (Key × D) := dispK [(.inr (tx [94]), .int 20), (.inr (tx [123]), .int 40), (.inr (tx [125]), .int 41), (.inr (tx [92]), .int 47), (.inr (tx [91]), .int 60), (.inr (tx [126]), .int 61), (.inr (tx [93]), .int 62), (.inr (tx [124]), .int 64)]
def mvK : List (Key × D) := dispK [(.inr (tx [64]), .int 0), (.inr (tx [36]), .int 2), (.inr (tx [95]), .int 17)]
theorem exK_eq : exK = [(.inr (tx [94]), .int 20), (.inr (tx [123]), .int 40), (.inr (tx [125]), .int 41), (.inr (tx [92]), .int 47), (.inr (tx [91]), .int 60), (.inr (tx [126]), .int 61), (.inr (tx [93]), .int 62), (.inr (tx [124]), .int 64)] := by simp [exK, dispK, storeK]
theorem mvK_eq : mvK = [(.inr (tx [64]), .int 0), (.inr (tx [36]), .int 2), (.inr (tx [95]), .int 17)] := by simp [mvK, dispK, storeK]
theorem exK_look (c : Nat) : lookK exK (.inr (tx [c])) = (extN c).map D.int := by
  rw [exK_eq]
  unfold extN
  simp only [lookK_cons, Sum.inr.injEq, tx_inj, List.cons.injEq, and_true]
  by_cases h1 : 94 = c
  · subst h1; rfl
  by_cases h2 : 123 = c
  · subst h2; rfl
  by_cases h3 : 125 = c
  · subst h3; rfl
  by_cases h4 : 92 = c
  · subst h4; rfl
  by_cases h5 : 91 = c
  · subst h5; rfl
  by_cases h6 : 126 = c
  · subst h6; rfl
  by_cases h7 : 93 = c
  · subst h7; rfl
  by_cases h8 : 124 = c
  · subst h8; rfl
  rw [if_neg h1, if_neg h2, if_neg h3, if_neg h4, if_neg h5, if_neg h6, if_neg h7, if_neg h8, if_neg (Ne.symm h1), if_neg (Ne.symm h2), if_neg (Ne.symm h3), if_neg (Ne.symm h4), if_neg (Ne.symm h5), if_neg (Ne.symm h6), if_neg (Ne.symm h7), if_neg (Ne.symm h8)]
  rfl
theorem mvK_look (c : Nat) : (lookK mvK (.inr (tx [c]))).getD (.int (c : Int)) = .int (movN c) := by
  rw [mvK_eq]
  unfold movN
  simp only [lookK_cons, Sum.inr.injEq, tx_inj, List.cons.injEq, and_true]
  by_cases h1 : 64 = c
  · subst h1; rfl
  by_cases h2 : 36 = c
  · subst h2; rfl
  by_cases h3 : 95 = c
  · subst h3; rfl
  rw [if_neg h1, if_neg h2, if_neg h3, if_neg (Ne.symm h1), if_neg (Ne.symm h2), if_neg (Ne.symm h3)]
  rfl
structure SpI (M0 : Store) (m : Nat) (A : List Int) (q : Nat × Store) : Prop where
  e : q.2[m]? = some (.dk exK)
  v : q.2[m + 1]? = some (.dk mvK)
  o : q.2[q.1]? = some (.lst (A.map D.int))
  g : m ≤ q.1
  k : ∀ i, i < m → q.2[i]? = M0[i]?
theorem law_septets {M : Store} {a : List Nat} (hl : a.length ≤ 1000) : ∃ M' : Store, (∀ (i : Nat) (x : Ob), M[i]? = some x → M'[i]? = some x) ∧ C__law_septets [.str (tx a)] M = some (.ok (.lst ((sepI a).map D.int)) M') := by
  rw [e__law_septets]
  obtain ⟨q, R, key⟩ := forL_P (g := none) (kl := K__law_septets_l1) (F := F__law_septets_l1) (fun c : Nat => D.str { cps := #[c] }) (fun q : Nat × Store => ([some (.str (tx a)), some (.oid M.length), some (.oid (M.length + 1)), some (.oid q.1), none], q.2)) (fun k q => SpI M M.length (sepI (a.take k)) q) a (M.length + 2, M ++ [.dk exK, .dk mvK, .lst []]) ⟨by simp, by simp, by simp [sepI], by simp, fun i hi => List.getElem?_append_left hi⟩ (fun _ _ _ => trivial) (fun _ _ => rfl) (fun k c q hk R => by
    have hkl := (List.getElem?_eq_some_iff.mp hk).1
    have e1 : sepI (a.take (k + 1)) = sepI (a.take k) ++ sgI c := by rw [List.take_add_one, hk, ← sepI_snoc]; rfl
    have ol := sepI_len (a.take k)
    rw [List.length_take] at ol
    have x1 := exK_look c
    have x2 := mvK_look c
    obtain ⟨o, N⟩ := q
    obtain ⟨r1, r2, r3, r4, r5⟩ := R
    dsimp only at r1 r2 r3 r4 r5
    have nl := get_lt r1
    have n1 : o ≠ M.length := ne_of_get r3 r1 (by intro z; cases z)
    have n2 : o ≠ M.length + 1 := ne_of_get r3 r2 (by intro z; cases z)
    have e : D.str { cps := #[c] } = D.str (tx [c]) := rfl
    have z1 : ((sepI (a.take k)).map D.int).length + 2 ≤ 16777216 := by rw [List.length_map]; omega
    have z2 : ((sepI (a.take k)).map D.int).length < 16777216 := by omega
    rw [e, e1]
    cases h : extN c with
    | some v =>
      rw [h] at x1
      have es : sgI c = [27, v] := by unfold sgI; rw [h]
      refine ⟨(N.length, N ++ [.lst ((sepI (a.take k) ++ sgI c).map D.int)]), ⟨get_app _ r1, get_app _ r2, by simp, by show M.length ≤ N.length; omega, fun i hi => by rw [← r5 i hi]; exact List.getElem?_append_left (by omega)⟩, ?_⟩
      rw [es, List.map_append]
      generalize (sepI (a.take k)).map D.int = A at *
      generalize exK = ek at *
      generalize mvK = mk at *
      simp [forF_eq, d__law_septets_l1, getD_tGet, r1, r3, x1, z1]
    | none =>
      rw [h] at x1
      have es : sgI c = [movN c] := by unfold sgI; rw [h]
      refine ⟨(o, N.set o (.lst ((sepI (a.take k) ++ sgI c).map D.int))), ⟨get_ne r1 n1, get_ne r2 n2, get_eq _ r3, r4, fun i hi => by rw [← r5 i hi]; exact List.getElem?_set_ne (by omega)⟩, ?_⟩
      rw [es, List.map_append]
      generalize (sepI (a.take k)).map D.int = A at *
      generalize exK = ek at *
      generalize mvK = mk at *
      simp [forF_eq, d__law_septets_l1, getD_tGet, r1, r2, r3, x1, x2, z2])
  obtain ⟨o, N⟩ := q
  obtain ⟨r1, r2, r3, r4, r5⟩ := R
  dsimp only at r1 r2 r3 r4 r5 key
  rw [List.take_length] at r3
  have al : a.length ≤ 16777216 := by omega
  have zl : ((sepI a).map D.int).length ≤ 16777216 := by have := sepI_len a; rw [List.length_map]; omega
  have d1 : dispK [(.inr (tx [94]), .int 20), (.inr (tx [123]), .int 40), (.inr (tx [125]), .int 41), (.inr (tx [92]), .int 47), (.inr (tx [91]), .int 60), (.inr (tx [126]), .int 61), (.inr (tx [93]), .int 62), (.inr (tx [124]), .int 64)] = exK := rfl
  have d2 : dispK [(.inr (tx [64]), .int 0), (.inr (tx [36]), .int 2), (.inr (tx [95]), .int 17)] = mvK := rfl
  refine ⟨N.set o .dead, fun i x h => ?_, ?_⟩
  · have hi := get_lt h
    rw [List.getElem?_set_ne (by omega), r5 i hi]; exact h
  generalize (sepI a).map D.int = z at *
  generalize exK = ek at *
  generalize mvK = mk at *
  simp [evF_eq, d__law_septets, d1, d2, al, key, zl, r3]

def sg2 : List Nat := [32, 33, 34, 35, 36, 38, 39, 40, 41, 42, 43, 44, 45, 46, 47, 48, 49, 50, 51, 52, 53, 54, 55, 56, 57, 58, 59, 60, 61, 62, 63, 64, 65, 66, 67, 68, 69, 70, 71, 72, 73, 74, 75, 76, 77, 78, 79, 80, 81, 82, 83, 84, 85, 86, 87, 88, 89, 90, 91, 92, 93, 94, 95, 97, 98, 99, 100, 101, 102, 103, 104, 105, 106, 107, 108, 109, 110, 111, 112, 113, 114, 115, 116, 117, 118, 119, 120, 121, 122, 123, 124, 125, 126, 10]
def dbl : List Nat := [94, 123, 125, 91, 126, 93, 124, 92]
theorem law_signs (M : Store) : C__law_signs [] M = some (.ok (.str (tx sg2)) M) := by
  rw [e__law_signs]
  simp [evF_eq, d__law_signs, sg2]
theorem ix_tx {M : Store} {l : List Nat} (hl : l.length ≤ 1000) {i : Int} (h0 : 0 ≤ i) (h : i < (l.length : Int)) : ∃ c ∈ l, pIx [.str (tx l), .int i] M = some (.v (.str (tx [c])) M) := by
  obtain ⟨k, rfl⟩ := Int.eq_ofNat_of_zero_le h0
  have hk : k < l.length := by omega
  refine ⟨l[k], List.getElem_mem _, ?_⟩
  have hl2 : l.length ≤ 16777216 := by omega
  rw [pIx_tx, if_pos hl2, atI_nat hk, List.getElem?_eq_getElem hk]
def AllS (a : List Nat) : Prop := ∀ c ∈ a, c ∈ sgl
theorem AllS.app {a b : List Nat} (h : AllS a) (h2 : AllS b) : AllS (a ++ b) := fun c hc => by
  rcases List.mem_append.mp hc with hc | hc
  · exact h c hc
  · exact h2 c hc
theorem sub_all {l : List Nat} (h : l.all (fun c => decide (c ∈ sgl)) = true) {c : Nat} (hc : c ∈ l) : c ∈ sgl := of_decide_eq_true (List.all_eq_true.mp h c hc)
theorem law_text (M : Store) {v : Int} (hv : 0 ≤ v) : ∃ a : List Nat, a.length ≤ 40 ∧ AllS a ∧ C__law_text [.int v, .int 40] M = some (.ok (.str (tx a)) M) := by
  rw [e__law_text]
  obtain ⟨n, hn⟩ := Int.eq_ofNat_of_zero_le (show 0 ≤ v % 41 by omega)
  have sg := law_signs M
  obtain ⟨a, ⟨a1, a2⟩, key⟩ := forL_P (g := none) (kl := K__law_text_l1) (F := F__law_text_l1) (fun i : Nat => D.int (i : Int)) (fun a : List Nat => ([some (.int (v / 41)), some (.int 40), some (.str (tx sg2)), some (.int (n : Int)), some (.str (tx dbl)), some (.str (tx a)), none, none], M)) (fun i a => a.length = i ∧ AllS a) (List.range n) [] ⟨rfl, fun _ h => nomatch h⟩ (fun _ _ _ => trivial) (fun _ _ => rfl) (fun k i a hx R => by
    have hk : k < n := by have := (List.getElem?_eq_some_iff.mp hx).1; simpa using this
    rw [List.getElem?_range hk] at hx
    cases hx
    obtain ⟨a1, a2⟩ := R
    have m1 : okMul (k : Int) (k : Int) = true := okMul_le (by omega) (by omega) (by omega) (by omega)
    have kk : (k : Int) * (k : Int) ≤ 1600 := by
      have h := Int.mul_le_mul (show (k : Int) ≤ 40 by omega) (show (k : Int) ≤ 40 by omega) (by omega) (by omega)
      simpa using h
    have kk0 : 0 ≤ (k : Int) * (k : Int) := Int.mul_nonneg (by omega) (by omega)
    have m2 : okMul ((k : Int) * (k : Int)) (1 + v / 41 % 89) = true := okMul_le (by omega) (by omega) (by omega) (by omega)
    obtain ⟨st, hst⟩ : ∃ st, (v / 41 / 95 + (k : Int) * (k : Int) * (1 + v / 41 % 89)) % 997 = st := ⟨_, rfl⟩
    have s0 : 0 ≤ st := by rw [← hst]; exact Int.emod_nonneg _ (by decide)
    have s1 : st < 997 := by rw [← hst]; exact Int.emod_lt_of_pos _ (by decide)
    have m3 : okMul st (k : Int) = true := okMul_le (by omega) (by omega) (by omega) (by omega)
    obtain ⟨c1, hc1, x1⟩ := ix_tx (M := M) (l := dbl) (by decide) (i := st / 2 % 8) (by omega) (by have : dbl.length = 8 := rfl; omega)
    obtain ⟨c2, hc2, x2⟩ := ix_tx (M := M) (l := sg2) (by decide) (i := (v / 41 + st * (k : Int)) % 94) (by omega) (by have : sg2.length = 94 := rfl; omega)
    have g1 : c1 ∈ sgl := sub_all (by decide) hc1
    have g2 : c2 ∈ sgl := sub_all (by decide) hc2
    have zl : a.length + 1 ≤ 16777216 := by omega
    generalize dbl = db at *
    generalize sg2 = sg at *
    by_cases c : v / 41 % 3 = 0 ∧ st % 2 = 0
    · refine ⟨a ++ [c1], ⟨by simp; omega, a2.app fun x hx => by rw [List.mem_singleton.mp hx]; exact g1⟩, ?_⟩
      simp [forF_eq, d__law_text_l1, m1, m2, hst, eq_true c.1, eq_true c.2, x1, zl, -pIx_tx]
    · refine ⟨a ++ [c2], ⟨by simp; omega, a2.app fun x hx => by rw [List.mem_singleton.mp hx]; exact g2⟩, ?_⟩
      by_cases d1 : v / 41 % 3 = 0
      · have d2 : ¬ st % 2 = 0 := fun z => c ⟨d1, z⟩
        simp [forF_eq, d__law_text_l1, m1, m2, hst, eq_true d1, eq_false d2, x2, zl, m3, -pIx_tx]
      · simp [forF_eq, d__law_text_l1, m1, m2, hst, eq_false d1, x2, zl, m3, -pIx_tx])
  rw [List.length_range] at a1
  refine ⟨a, by omega, a2, ?_⟩
  have sm : small62 (n : Int) = true := small62_nat (by omega)
  have hn16 : n ≤ 16777216 := by omega
  have ed : D.str (tx [94, 123, 125, 91, 126, 93, 124, 92]) = D.str (tx dbl) := rfl
  have dd : d__law_text = (.cons (.asg (.nm 2) (.call 5 .nil))
(.cons (.asg (.nm 3) (.op .mod false (.cons (.var 0) (.cons (.op .add false (.cons (.var 1) (.cons (.lit (.int 1)) .nil))) .nil))))
(.cons (.asg (.nm 0) (.op .fdiv false (.cons (.var 0) (.cons (.op .add false (.cons (.var 1) (.cons (.lit (.int 1)) .nil))) .nil))))
(.cons (.asg (.nm 4) (.lit (.str (tx dbl))))
(.cons (.asg (.nm 5) (.lit (.str (tx []))))
(.cons (.forS (.nm 6) .rng1 (.cons (.var 3) .nil)
d__law_text_l1
[6, 7])
(.cons (.ret (.var 5))
.nil))))))) := rfl
  rw [dd]
  generalize dbl = db at *
  generalize sg2 = sgx at *
  simp [evF_eq, sg, hn, sm, rngL_one, hn16, key]
theorem AllS.ok : ∀ {a : List Nat}, AllS a → okT a = true
  | [], _ => rfl
  | c :: a, h => by
    have h1 := sub_all (l := sgl) (by decide) (h c List.mem_cons_self)
    have : c < 128 := by
      have q : sgl.all (fun c => decide (c < 128)) = true := by decide
      exact of_decide_eq_true (List.all_eq_true.mp q c h1)
    rw [okT_cons, AllS.ok (a := a) fun x hx => h x (List.mem_cons_of_mem _ hx), Bool.and_true, decide_eq_true_eq]
    omega
theorem septets_ok {M : Store} {a : List Nat} (h : ∀ c ∈ a, c ∈ sgl) (hl : a.length ≤ 1000) : C_septets [.str (tx a)] M = some (.ok (.oid M.length) (M ++ [.lst ((sepI a).map D.int)])) := by
  rw [e_septets]
  have key := forL_emb (g := none) (kl := K_septets_l1) (F := F_septets_l1) (fun c : Nat => D.str { cps := #[c] }) (fun k => ([some (.str (tx a)), some (.oid M.length), none], M ++ [.lst ((sepI (a.take k)).map D.int)])) a (fun _ _ => trivial) rfl (fun k c hk => by
    have hkl := (List.getElem?_eq_some_iff.mp hk).1
    have e1 : sepI (a.take (k + 1)) = sepI (a.take k) ++ sgI c := by rw [List.take_add_one, hk, ← sepI_snoc]; rfl
    have ol := sepI_len (a.take k)
    rw [List.length_take] at ol
    have cl := sgI_len c
    have ws := fun N : Store => ws_ok (M := N) (h c (List.mem_of_getElem? hk))
    dsimp only
    have e : D.str { cps := #[c] } = D.str (tx [c]) := rfl
    rw [e, e1, List.map_append]
    have z1 : ((sepI (a.take k)).map D.int).length + ((sgI c).map D.int).length ≤ 16777216 := by rw [List.length_map, List.length_map]; omega
    generalize (sepI (a.take k)).map D.int = A at *
    generalize (sgI c).map D.int = B at *
    simp [forF_eq, d_septets_l1, ws, z1])
  have e0 : (sepI (a.take 0)).map D.int = [] := rfl
  dsimp only at key
  rw [e0, List.take_length] at key
  have al : a.length ≤ 16777216 := by omega
  have zl : ((sepI a).map D.int).length ≤ 16777216 := by have := sepI_len a; rw [List.length_map]; omega
  generalize (sepI a).map D.int = z at *
  simp [evF_eq, d_septets, al, key, zl]

theorem forL_exc {β : Type} {g : Option (Nat × List D)} {kl : List Nat} {F : D → Sl → Store → Option SO} (e : β → D) (emb : Nat → Sl × Store) (xs ys : List β) (y : β) (x : Exn) (δ' : Sl) (M' : Store) (hg : ∀ k, gdOk g (emb k).2)
    (hs : ∀ k z, xs[k]? = some z → killN kl (F (e z) (emb k).1 (emb k).2) = some (.nx (emb (k + 1)).1 (emb (k + 1)).2)) (hy : F (e y) (emb xs.length).1 (emb xs.length).2 = some (.exc x δ' M')) :
    forL g kl F ((xs ++ y :: ys).map e) (emb 0).1 (emb 0).2 = some (.exc x δ' M') := by
  induction xs generalizing emb with
  | nil =>
    rw [List.nil_append, List.map_cons, forL_cons, if_pos (hg 0)]
    have hy : F (e y) (emb 0).1 (emb 0).2 = _ := hy
    rw [hy]
  | cons z xs ih =>
    rw [List.cons_append, List.map_cons, forL_cons, if_pos (hg 0)]
    obtain ⟨δ2, h1, h2⟩ := killN_nx_of (hs 0 z rfl)
    have := ih (fun k => emb (k + 1)) (fun k => hg _) (fun k w hw => hs (k + 1) w hw) hy
    rcases h1 with h1 | h1
    · rw [h1]; dsimp only; rw [h2]; exact this
    · rw [h1]; dsimp only; rw [h2]; exact this
theorem septets_bad {M : Store} {u t : List Nat} {c : Nat} (h : ∀ c ∈ u, c ∈ sgl) (hc : c ∉ sgl) (hl : (u ++ c :: t).length ≤ 1000) : ∃ N, C_septets [.str (tx (u ++ c :: t))] M = some (.exc ⟨xBadText, []⟩ (M ++ N)) := by
  rw [e_septets]
  refine ⟨[.lst ((sepI u).map D.int)], ?_⟩
  have lu : u.length ≤ 1000 := by rw [List.length_append] at hl; omega
  have wb := fun N : Store => ws_bad (M := N) hc
  have key := forL_exc (g := none) (kl := K_septets_l1) (F := F_septets_l1) (fun c : Nat => D.str { cps := #[c] }) (fun k => ([some (.str (tx (u ++ c :: t))), some (.oid M.length), none], M ++ [.lst ((sepI (u.take k)).map D.int)])) u t c ⟨xBadText, []⟩ [some (.str (tx (u ++ c :: t))), some (.oid M.length), some (.str (tx [c]))] (M ++ [.lst ((sepI u).map D.int)]) (fun _ => trivial) (fun k c hk => by
    have hkl := (List.getElem?_eq_some_iff.mp hk).1
    have e1 : sepI (u.take (k + 1)) = sepI (u.take k) ++ sgI c := by rw [List.take_add_one, hk, ← sepI_snoc]; rfl
    have ol := sepI_len (u.take k)
    rw [List.length_take] at ol
    have cl := sgI_len c
    have ws := fun N : Store => ws_ok (M := N) (h c (List.mem_of_getElem? hk))
    dsimp only
    have e : D.str { cps := #[c] } = D.str (tx [c]) := rfl
    rw [e, e1, List.map_append]
    have z1 : ((sepI (u.take k)).map D.int).length + ((sgI c).map D.int).length ≤ 16777216 := by rw [List.length_map, List.length_map]; omega
    generalize (sepI (u.take k)).map D.int = A at *
    generalize (sgI c).map D.int = B at *
    simp [forF_eq, d_septets_l1, ws, z1]) (by
    dsimp only
    rw [List.take_length]
    have e : D.str { cps := #[c] } = D.str (tx [c]) := rfl
    rw [e]
    generalize (sepI u).map D.int = A at *
    simp only [xBadText] at wb ⊢
    simp [forF_eq, d_septets_l1, wb])
  have e0 : (sepI (u.take 0)).map D.int = [] := rfl
  dsimp only at key
  rw [e0] at key
  have al : (u ++ c :: t).length ≤ 16777216 := by omega
  generalize (sepI u).map D.int = z at *
  generalize u ++ c :: t = w at *
  simp [evF_eq, d_septets, al, key]
theorem refused_ok {M : Store} {u t : List Nat} {c : Nat} (h : ∀ c ∈ u, c ∈ sgl) (hc : c ∉ sgl) (hl : (u ++ c :: t).length ≤ 1000) : ∃ N, C__law_refused [.str (tx (u ++ c :: t))] M = some (.ok (.bl true) (M ++ N)) := by
  rw [e__law_refused]
  obtain ⟨N, b⟩ := septets_bad (M := M) h hc hl
  refine ⟨N, ?_⟩
  generalize u ++ c :: t = w at *
  simp only [xBadText] at b
  simp [evF_eq, d__law_refused, b]
/-! the tables that are built -/
section
variable {κ α : Type} [DecidableEq κ]
def fkv (f : α → κ) (g : α → D) (l : List α) : List (κ × D) := l.foldl (fun m a => storeK m (f a) (g a)) []
theorem fkv_snoc (f : α → κ) (g : α → D) (l : List α) (a : α) : fkv f g (l ++ [a]) = storeK (fkv f g l) (f a) (g a) := by
  unfold fkv
  rw [List.foldl_append]; rfl
theorem fkv_len (f : α → κ) (g : α → D) (l : List α) : (fkv f g l).length ≤ l.length := by
  have gen : ∀ r : List α, (fkv f g r.reverse).length ≤ r.length := fun r => by
    induction r with
    | nil => exact Nat.le_refl _
    | cons a r ih =>
      rw [List.reverse_cons, fkv_snoc, List.length_cons]
      have := storeK_len (fkv f g r.reverse) (f a) (g a)
      omega
  have := gen l.reverse
  rwa [List.reverse_reverse, List.length_reverse] at this
theorem fkv_look (f : α → κ) (g : α → D) (k : κ) : ∀ r : List α, lookK (fkv f g r.reverse) k = (r.find? fun a => decide (f a = k)).map g
  | [] => rfl
  | a :: r => by
    rw [List.reverse_cons, fkv_snoc, lookK_store, List.find?_cons, fkv_look f g k r]
    by_cases h : f a = k
    · rw [if_pos h, decide_eq_true h]; rfl
    · rw [if_neg h, decide_eq_false h]
theorem fkv_find (f : α → κ) (g : α → D) (k : κ) (l : List α) : lookK (fkv f g l) k = (l.reverse.find? fun a => decide (f a = k)).map g := by
  have := fkv_look f g k l.reverse
  rwa [List.reverse_reverse] at this
end
def sng : List Nat := sgl.filter fun c => (extN c).isNone
def xtl : List Nat := [94, 123, 125, 92, 91, 126, 93, 124]
def extI (c : Nat) : Int := (extN c).getD 0
def chD (c : Nat) : D := .str (tx [c])
def sK (l : List Nat) : List (Key × D) := fkv (fun c => (.inl (movN c) : Key)) chD (l.filter fun c => (extN c).isNone)
def dK (l : List Nat) : List (Key × D) := fkv (fun c => (.inl (extI c) : Key)) chD l
def sgN (x : Int) : Nat := ((sgl.filter fun c => (extN c).isNone).reverse.find? fun c => decide (movN c = x)).getD 63
def dbN (x : Int) : Nat := (xtl.reverse.find? fun c => decide (extI c = x)).getD 63
theorem inl_dec (a b : Int) : decide ((.inl a : Key) = .inl b) = decide (a = b) := by
  by_cases h : a = b
  · rw [decide_eq_true h, h, decide_eq_true rfl]
  · rw [decide_eq_false h, decide_eq_false fun z => h (Sum.inl.inj z)]
theorem map_getD {o : Option Nat} (n : Nat) : (o.map chD).getD (chD n) = chD (o.getD n) := by cases o <;> rfl
theorem sK_look (x : Int) : (lookK (sK sgl) (.inl x)).getD (.str (tx [63])) = .str (tx [sgN x]) := by
  unfold sK sgN
  rw [fkv_find]
  simp only [inl_dec]
  exact map_getD 63
theorem dK_look (x : Int) : (lookK (dK xtl) (.inl x)).getD (.str (tx [63])) = .str (tx [dbN x]) := by
  unfold dK dbN
  rw [fkv_find]
  simp only [inl_dec]
  exact map_getD 63
theorem single_ok {M : Store} : C_single_signs [] M = some (.ok (.oid M.length) (M ++ [.dk (sK sgl)])) := by
  rw [e_single_signs]
  have key := compL_dk (F := B_single_signs_c1 M.length [none]) (N := M) (fun i => sK (sgl.take i)) (sgl.map fun c : Nat => D.str ⟨#[c]⟩) (fun i x hx => by
    rw [List.getElem?_map] at hx
    obtain ⟨c, hc, rfl⟩ := Option.map_eq_some_iff.mp hx
    have hi := (List.getElem?_eq_some_iff.mp hc).1
    have hi : i < 94 := hi
    have ht : sgl.take (i + 1) = sgl.take i ++ [c] := by rw [List.take_add_one, hc]; rfl
    have ws := fun N : Store => ws_ok (M := N) (List.mem_of_getElem? hc)
    have e1 := ext_look c
    have e : D.str { cps := #[c] } = D.str (tx [c]) := rfl
    have ln : (sK (sgl.take i)).length < line := by
      have h1 := fkv_len (fun c => (.inl (movN c) : Key)) chD ((sgl.take i).filter fun c => (extN c).isNone)
      have h2 := List.length_filter_le (fun c => (extN c).isNone) (sgl.take i)
      rw [List.length_take] at h2
      have h3 : (sK (sgl.take i)).length ≤ _ := h1
      have : line = 16777216 := rfl
      omega
    rw [e]
    cases h : extN c with
    | some v =>
      rw [h] at e1
      have es : sK (sgl.take (i + 1)) = sK (sgl.take i) := by
        unfold sK
        rw [ht, List.filter_append]
        simp [h]
      rw [es]
      generalize sK (sgl.take i) = A at *
      simp [dcompB_eq, e1]
    | none =>
      rw [h] at e1
      have es : sK (sgl.take (i + 1)) = storeK (sK (sgl.take i)) (.inl (movN c)) (.str (tx [c])) := by
        unfold sK
        rw [ht, List.filter_append]
        have : [c].filter (fun c => (extN c).isNone) = [c] := by simp [h]
        rw [this, fkv_snoc]; rfl
      have eg : sgI c = [movN c] := by unfold sgI; rw [h]
      rw [eg] at ws
      have pt := putR_end M (sK (sgl.take i)) (.int (movN c)) (.str (tx [c])) (.inl (movN c)) rfl ln
      rw [es]
      generalize sK (sgl.take i) = A at *
      simp [dcompB_eq, e1, ws, pt])
  have e0 : sK (sgl.take 0) = [] := rfl
  have e9 : sK (sgl.take (sgl.map fun c : Nat => D.str ⟨#[c]⟩).length) = sK sgl := by rw [List.length_map, List.take_length]
  rw [e0, e9] at key
  have d : d_single_signs = (.cons (.ret (.dcomp [("sign", 0)] (.op .ix false (.cons (.call 0 (.cons (.var 0) .nil)) (.cons (.lit (.int 0)) .nil))) (.var 0) (.nm 0) .ex (.cons (.glb "SIGNS" (.str (tx sgl))) .nil) (.cons (.tab .hasnt "EXTENDED" tb_EXTENDED (.var 0) (.lit .non)) .nil)))
.nil) := rfl
  rw [d]
  have sl : sgl.length ≤ 16777216 := by decide
  generalize sK sgl = A at *
  generalize sgl = sg at *
  simp [evF_eq, sl, key]
theorem double_ok {M : Store} : C_double_signs [] M = some (.ok (.oid M.length) (M ++ [.dk (dK xtl)])) := by
  rw [e_double_signs]
  have key := compL_dk (F := B_double_signs_c1 M.length [none]) (N := M) (fun i => dK (xtl.take i)) (xtl.map fun c : Nat => D.str (tx [c])) (fun i x hx => by
    rw [List.getElem?_map] at hx
    obtain ⟨c, hc, rfl⟩ := Option.map_eq_some_iff.mp hx
    have hi := (List.getElem?_eq_some_iff.mp hc).1
    have hi : i < 8 := hi
    have ht : xtl.take (i + 1) = xtl.take i ++ [c] := by rw [List.take_add_one, hc]; rfl
    have e1 := ext_look c
    have ev : ∀ c ∈ xtl, extN c = some (extI c) := by decide
    have ev := ev c (List.mem_of_getElem? hc)
    have ln : (dK (xtl.take i)).length < line := by
      have h1 := fkv_len (fun c => (.inl (extI c) : Key)) chD (xtl.take i)
      have h2 : (xtl.take i).length ≤ i := by rw [List.length_take]; omega
      have h3 : (dK (xtl.take i)).length ≤ _ := h1
      have : line = 16777216 := rfl
      omega
    rw [ev] at e1
    have es : dK (xtl.take (i + 1)) = storeK (dK (xtl.take i)) (.inl (extI c)) (.str (tx [c])) := by
      unfold dK
      rw [ht, fkv_snoc]; rfl
    have pt := putR_end M (dK (xtl.take i)) (.int (extI c)) (.str (tx [c])) (.inl (extI c)) rfl ln
    rw [es]
    generalize dK (xtl.take i) = A at *
    simp [dcompB_eq, e1, pt])
  have e0 : dK (xtl.take 0) = [] := rfl
  have e9 : dK (xtl.take (xtl.map fun c : Nat => D.str (tx [c])).length) = dK xtl := by rw [List.length_map, List.take_length]
  rw [e0, e9] at key
  have kx : (tb_EXTENDED.map (·.1)).map D.str = xtl.map fun c : Nat => D.str (tx [c]) := rfl
  have kl : (xtl.map fun c : Nat => D.str (tx [c])).length ≤ 16777216 := by decide
  generalize dK xtl = A at *
  generalize (xtl.map fun c : Nat => D.str (tx [c])) = zx at *
  simp only [evF_eq, d_double_signs]
  simp [kx, kl, key, -List.map_map]
/-! reading septets -/
def stx (q : List Nat × Bool) (x : Int) : List Nat × Bool := if q.2 = true then (q.1 ++ [dbN x], false) else if x = 27 then (q.1, true) else (q.1 ++ [sgN x], false)
def fin (q : List Nat × Bool) : List Nat := if q.2 = true then q.1 ++ [63] else q.1
def txo (row : List Int) : List Nat := fin (row.foldl stx ([], false))
theorem stx_len (row : List Int) : ∀ q : List Nat × Bool, (row.foldl stx q).1.length ≤ q.1.length + row.length := by
  induction row with
  | nil => exact fun q => Nat.le_refl _
  | cons x row ih =>
    intro q
    rw [List.foldl_cons, List.length_cons]
    have h := ih (stx q x)
    have : (stx q x).1.length ≤ q.1.length + 1 := by
      unfold stx
      split
      · simp
      · split <;> simp
    omega
theorem text_of_ok {M : Store} {d : D} {g : Option (Nat × List D)} {row : List Int} (hd : isExr d = false) (hl : row.length ≤ 1000) (hi : itemsR .ex [d] (M ++ [.dk (sK sgl), .dk (dK xtl)]) = some (.ok ⟨row.map D.int, g⟩ (M ++ [.dk (sK sgl), .dk (dK xtl)]))) (hg : gdOk g (M ++ [.dk (sK sgl), .dk (dK xtl)])) :
    C_text_of [d] M = some (.ok (.str (tx (txo row))) (M ++ [.dk (sK sgl), .dk (dK xtl)])) := by
  rw [e_text_of]
  have s1 := single_ok (M := M)
  have s2 := double_ok (M := M ++ [.dk (sK sgl)])
  have l1 := sK_look
  have l2 := dK_look
  have ln : (M ++ [Ob.dk (sK sgl)]).length = M.length + 1 := by simp
  have as : (M ++ [Ob.dk (sK sgl)]) ++ [.dk (dK xtl)] = M ++ [.dk (sK sgl), .dk (dK xtl)] := by simp
  rw [ln, as] at s2
  have key := forL_emb (g := g) (kl := K_text_of_l1) (F := F_text_of_l1) D.int (fun k => ([some d, some (.oid M.length), some (.oid (M.length + 1)), some (.str (tx ((row.take k).foldl stx ([], false)).1)), some (.bl ((row.take k).foldl stx ([], false)).2), none], M ++ [.dk (sK sgl), .dk (dK xtl)])) row (fun _ _ => hg) rfl (fun k x hk => by
    have hkl := (List.getElem?_eq_some_iff.mp hk).1
    have e1 : (row.take (k + 1)).foldl stx ([], false) = stx ((row.take k).foldl stx ([], false)) x := by
      rw [List.take_add_one, hk, List.foldl_append]; rfl
    have ol := stx_len (row.take k) ([], false)
    rw [List.length_take] at ol
    dsimp only
    rw [e1]
    generalize (row.take k).foldl stx ([], false) = q at *
    obtain ⟨T, b⟩ := q
    have ol : T.length + 1 ≤ 16777216 := by
      have ol : T.length ≤ ([] : List Nat).length + min k row.length := ol
      simp at ol
      omega
    have ol2 : T.length ≤ 16777215 := by omega
    have l1 := l1 x
    have l2 := l2 x
    have r1 : (M ++ [Ob.dk (sK sgl), Ob.dk (dK xtl)])[M.length]? = some (.dk (sK sgl)) := by simp
    have r2 : (M ++ [Ob.dk (sK sgl), Ob.dk (dK xtl)])[M.length + 1]? = some (.dk (dK xtl)) := by simp
    generalize M ++ [Ob.dk (sK sgl), Ob.dk (dK xtl)] = N at *
    generalize sK sgl = A at *
    generalize dK xtl = B at *
    unfold stx
    cases b with
    | true => simp [forF_eq, d_text_of_l1, r1, r2, l1, l2, ol, ol2]
    | false =>
      by_cases c : x = 27
      · subst c
        simp [forF_eq, d_text_of_l1]
      · simp [forF_eq, d_text_of_l1, r1, r2, l1, l2, ol, ol2, c])
  have e0 : ((row.take 0).foldl stx ([], false)) = ([], false) := rfl
  dsimp only at key
  rw [e0, List.take_length] at key
  dsimp only at key
  have ol := stx_len row ([], false)
  have ol : (row.foldl stx ([], false)).1.length + 1 ≤ 16777216 := by
    have ol : (row.foldl stx ([], false)).1.length ≤ ([] : List Nat).length + row.length := ol
    simp at ol
    omega
  unfold txo fin
  generalize row.foldl stx ([], false) = q at *
  obtain ⟨T, b⟩ := q
  dsimp only at key ol ⊢
  have ol2 : T.length ≤ 16777215 := by omega
  generalize M ++ [Ob.dk (sK sgl), Ob.dk (dK xtl)] = N at *
  generalize sK sgl = A at *
  generalize dK xtl = B at *
  generalize row.map D.int = z at *
  cases b with
  | true => simp [evF_eq, d_text_of, hd, s1, s2, hi, key, ol, ol2]
  | false => simp [evF_eq, d_text_of, hd, s1, s2, hi, key]
theorem sg_back {c : Nat} (hc : c ∈ sgl) : (match extN c with | some e => dbN e = c | none => movN c ≠ 27 ∧ sgN (movN c) = c) := by
  have h : sgl.all (fun c => match extN c with | some e => dbN e == c | none => decide (movN c ≠ 27) && (sgN (movN c) == c)) = true := by decide +kernel
  have h := List.all_eq_true.mp h c hc
  cases e : extN c with
  | some v => rw [e] at h; exact beq_iff_eq.mp h
  | none =>
    rw [e] at h
    obtain ⟨h1, h2⟩ := and1 h
    exact ⟨of_decide_eq_true h1, beq_iff_eq.mp h2⟩
theorem stx_sg {c : Nat} (hc : c ∈ sgl) (T : List Nat) : (sgI c).foldl stx (T, false) = (T ++ [c], false) := by
  have h := sg_back hc
  unfold sgI
  cases e : extN c with
  | some v =>
    rw [e] at h
    dsimp only at h
    show stx (stx (T, false) 27) v = _
    have : stx (T, false) 27 = (T, true) := rfl
    rw [this]
    show (T ++ [dbN v], false) = _
    rw [h]
  | none =>
    rw [e] at h
    show stx (T, false) (movN c) = _
    unfold stx
    rw [if_neg (by simp), if_neg h.1, h.2]
theorem stx_sep : ∀ (a T : List Nat), AllS a → (sepI a).foldl stx (T, false) = (T ++ a, false)
  | [], T, _ => by simp [sepI]
  | c :: a, T, h => by
    have e : sepI (c :: a) = sgI c ++ sepI a := rfl
    rw [e, List.foldl_append, stx_sg (h c List.mem_cons_self), stx_sep a _ fun x hx => h x (List.mem_cons_of_mem _ hx)]
    simp
theorem txo_sep {a : List Nat} (h : AllS a) : txo (sepI a) = a := by
  unfold txo
  rw [stx_sep a [] h]; rfl
/-! any row -/
def lkS (l : List Int) : Nat := (sg2.reverse.find? fun c => decide (sgI c = l)).getD 63
theorem lk_one : ∀ x : Nat, x < 128 → x ≠ 27 → lkS [(x : Int)] = sgN x := by
  have h : ∀ x ∈ List.range 128, x ≠ 27 → lkS [((x : Nat) : Int)] = sgN (x : Nat) := by decide +kernel
  exact fun x hx => h x (List.mem_range.mpr hx)
theorem lk_two : ∀ x : Nat, x < 128 → lkS [27, (x : Int)] = dbN x := by
  have h : ∀ x ∈ List.range 128, lkS [27, ((x : Nat) : Int)] = dbN (x : Nat) := by decide +kernel
  exact fun x hx => h x (List.mem_range.mpr hx)
theorem lk_esc : lkS [27] = 63 := by decide +kernel
theorem sg_all : ∀ x ∈ List.range 128, sgN (x : Nat) ∈ sgl ∧ dbN (x : Nat) ∈ sgl := by decide +kernel
theorem keysD_ints : ∀ l : List Int, keysD (l.map D.int) = some (l.map fun x => (.inl x : Key))
  | [] => rfl
  | x :: l => by
    show (match keyD (.int x), keysD (l.map D.int) with
      | some k, some ks => some (k :: ks)
      | _, _ => none) = _
    rw [keysD_ints l]; rfl
def kyI (l : List Int) : List Key := l.map fun x => (.inl x : Key)
theorem kyI_inj : ∀ {a b : List Int}, kyI a = kyI b → a = b
  | [], [], _ => rfl
  | [], _ :: _, h => by cases h
  | _ :: _, [], h => by cases h
  | x :: a, y :: b, h => by
    have h1 : (.inl x : Key) = .inl y := (List.cons.inj h).1
    have h2 : kyI a = kyI b := (List.cons.inj h).2
    rw [Sum.inl.inj h1, kyI_inj h2]
theorem kyI_dec (a b : List Int) : decide (kyI a = kyI b) = decide (a = b) := by
  by_cases h : a = b
  · rw [decide_eq_true h, h, decide_eq_true rfl]
  · rw [decide_eq_false h, decide_eq_false fun z => h (kyI_inj z)]
theorem tGet_ints (l : List Int) (kvs : List (List Key × D)) : tGet (.tup (l.map D.int)) (some (.dt kvs)) = some (lookK kvs (kyI l)) := by
  show (keysD (l.map D.int)).map _ = _
  rw [keysD_ints]; rfl
theorem tSet_ints (M : Store) (n : Nat) (l : List Int) (y : D) (kvs : List (List Key × D)) : tSet M n (.tup (l.map D.int)) y (some (.dt kvs)) = if kvs.length < line then some (M.set n (.dt (storeK kvs (kyI l) y))) else none := by
  show (match keysD (l.map D.int) with
      | some k => if kvs.length < line then some (M.set n (.dt (storeK kvs k y))) else none
      | none => none) = _
  rw [keysD_ints]; rfl
@[simp] theorem tDk_dt (kvs : List (List Key × D)) : tDk (some (.dt kvs)) = true := rfl
def tK (l : List Nat) : List (List Key × D) := fkv (fun c => kyI (sgI c)) chD l
theorem tK_look (l : List Int) : (lookK (tK sg2) (kyI l)).getD (.str (tx [63])) = .str (tx [lkS l]) := by
  unfold tK lkS
  rw [fkv_find]
  simp only [kyI_dec]
  exact map_getD 63
theorem sg2_sub {c : Nat} (h : c ∈ sg2) : c ∈ sgl := sub_all (by decide) h
theorem law_table {M : Store} : ∃ M' : Store, M'[M.length]? = some (.dt (tK sg2)) ∧ C__law_table [] M = some (.ok (.oid M.length) M') := by
  rw [e__law_table]
  obtain ⟨N, R, key⟩ := forL_P (g := none) (kl := K__law_table_l1) (F := F__law_table_l1) (fun c : Nat => D.str { cps := #[c] }) (fun N : Store => ([some (.oid M.length), none], N)) (fun k N => N[M.length]? = some (.dt (tK (sg2.take k)))) sg2 (M ++ [.dt []]) (by simp; rfl) (fun _ _ _ => trivial) (fun _ _ => rfl) (fun k c N hk R => by
    have hi := (List.getElem?_eq_some_iff.mp hk).1
    have hi : k < 94 := hi
    have ht : sg2.take (k + 1) = sg2.take k ++ [c] := by rw [List.take_add_one, hk]; rfl
    obtain ⟨N', h1, h2⟩ := law_septets (M := N) (a := [c]) (by simp)
    have e1 : sepI [c] = sgI c := List.append_nil _
    rw [e1] at h2
    have R' := h1 _ _ R
    have ln : (tK (sg2.take k)).length < 16777216 := by
      have a1 := fkv_len (fun c => kyI (sgI c)) chD (sg2.take k)
      have a2 : (sg2.take k).length ≤ k := by rw [List.length_take]; omega
      have a3 : (tK (sg2.take k)).length ≤ _ := a1
      omega
    have es : tK (sg2.take (k + 1)) = storeK (tK (sg2.take k)) (kyI (sgI c)) (.str (tx [c])) := by
      unfold tK
      rw [ht, fkv_snoc]; rfl
    refine ⟨N'.set M.length (.dt (tK (sg2.take (k + 1)))), get_eq _ R', ?_⟩
    have e : D.str { cps := #[c] } = D.str (tx [c]) := rfl
    have ts := tSet_ints N' M.length (sgI c) (.str (tx [c])) (tK (sg2.take k))
    rw [e, es]
    generalize tK (sg2.take k) = A at *
    generalize kyI (sgI c) = K at *
    generalize (sgI c).map D.int = z at *
    simp [forF_eq, d__law_table_l1, h2, setD_tSet, R', ts, ln])
  rw [List.take_length] at R
  refine ⟨N, R, ?_⟩
  have sg := law_signs (M ++ [.dt []])
  have sl : sg2.length ≤ 16777216 := by decide
  dsimp only at key
  generalize sg2 = s at *
  simp [evF_eq, d__law_table, sg, sl, key]
def smI (row : List Int) : Prop := ∀ x ∈ row, ∃ n : Nat, n < 128 ∧ x = (n : Int)
theorem read_ok {M : Store} {o : Nat} {row : List Int} (ho : M[o]? = some (.dt (tK sg2))) (hl : row.length ≤ 1000) (hs : smI row) : C__law_read [.oid o, .lst (row.map D.int)] M = some (.ok (.str (tx (txo row))) M) := by
  rw [e__law_read]
  obtain ⟨q, R, key⟩ := forL_P (g := none) (kl := K__law_read_l1) (F := F__law_read_l1) (fun i : Nat => D.int (i : Int)) (fun q : List Nat × Nat => ([some (.oid o), some (.lst (row.map D.int)), some (.str (tx q.1)), some (.int (q.2 : Int)), none, none], M)) (fun k q => q.2 ≤ row.length ∧ (k ≤ q.2 ∨ q.2 = row.length) ∧ q.1.length ≤ q.2 ∧ fin ((row.drop q.2).foldl stx (q.1, false)) = txo row) (List.range row.length) ([], 0) ⟨Nat.zero_le _, .inl (Nat.le_refl _), Nat.le_refl _, rfl⟩ (fun _ _ _ => trivial) (fun _ _ => rfl) (fun k i q hk R => by
    obtain ⟨T, i⟩ := q
    obtain ⟨r1, r2, r3, r4⟩ := R
    dsimp only at r1 r2 r3 r4
    have zl : (row.map D.int).length = row.length := List.length_map _
    have tl : T.length + 1 ≤ 16777216 := by omega
    have tl2 : T.length ≤ 16777215 := by omega
    by_cases hi : i < row.length
    · have x1 := ixL_ints (ns := row) (k := i) M hi
      have g1 : row[i]? = some (row.getD i 0) := by rw [List.getD_eq_getElem?_getD, List.getElem?_eq_getElem hi]; rfl
      have d1 : row.drop i = row.getD i 0 :: row.drop (i + 1) := by
        rw [List.getD_eq_getElem?_getD, List.getElem?_eq_getElem hi]
        exact (List.getElem_cons_drop hi).symm
      obtain ⟨n, hn, en⟩ := hs _ (List.mem_of_getElem? g1)
      rw [d1, List.foldl_cons] at r4
      rw [List.getElem?_eq_getElem hi] at g1
      have lk := tK_look
      by_cases c : row.getD i 0 = 27
      · rw [c] at x1 d1 r4
        by_cases hi2 : i + 1 < row.length
        · have g2 : row[i + 1]? = some (row.getD (i + 1) 0) := by rw [List.getD_eq_getElem?_getD, List.getElem?_eq_getElem hi2]; rfl
          have d2 : row.drop (i + 1) = row.getD (i + 1) 0 :: row.drop (i + 2) := by
            rw [List.getD_eq_getElem?_getD, List.getElem?_eq_getElem hi2]
            exact (List.getElem_cons_drop hi2).symm
          obtain ⟨n2, hn2, en2⟩ := hs _ (List.mem_of_getElem? g2)
          have cw : cut (row.map D.int) (some (i : Int)) (some ((i : Int) + 2)) = [27, row.getD (i + 1) 0].map D.int := by
            have := cut_win (row.map D.int) i 2
            rw [show ((2 : Nat) : Int) = 2 from rfl, ← List.map_drop, d1, d2] at this
            exact this
          rw [d2, List.foldl_cons] at r4
          have tg := tGet_ints [27, row.getD (i + 1) 0] (tK sg2)
          have lk := lk [27, row.getD (i + 1) 0]
          rw [en2, lk_two n2 hn2, ← en2] at lk
          refine ⟨(T ++ [dbN (row.getD (i + 1) 0)], i + 2), ⟨by show i + 2 ≤ _; omega, by show k + 1 ≤ i + 2 ∨ _; omega, by simp; omega, r4⟩, ?_⟩
          have c2 : ((i : Int) + 1 < (row.length : Int)) := by omega
          have c1 : ((i : Int) < (row.length : Int)) := by omega
          simp only [List.map_cons, List.map_nil] at tg cw
          generalize row.map D.int = z at *
          generalize tK sg2 = A at *
          generalize kyI [27, row.getD (i + 1) 0] = K at *
          generalize row.getD (i + 1) 0 = y at *
          simp [forF_eq, d__law_read_l1, zl, hi, hi2, x1, c1, c2, slice_lst, cw, getD_tGet, ho, tg, lk, tl, tl2]
        · have d2 : row.drop (i + 1) = [] := List.drop_eq_nil_of_le (by omega)
          have cw : cut (row.map D.int) (some (i : Int)) (some ((i : Int) + 1)) = [27].map D.int := by
            have := cut_win (row.map D.int) i 1
            rw [show ((1 : Nat) : Int) = 1 from rfl, ← List.map_drop, d1, d2] at this
            exact this
          rw [d2] at r4
          have tg := tGet_ints [27] (tK sg2)
          have lk := lk [27]
          rw [lk_esc] at lk
          refine ⟨(T ++ [63], i + 1), ⟨by show i + 1 ≤ _; omega, by show k + 1 ≤ i + 1 ∨ _; omega, by simp; omega, ?_⟩, ?_⟩
          · show fin ((row.drop (i + 1)).foldl stx (T ++ [63], false)) = _
            rw [d2]
            exact r4
          have c2 : ¬ ((i : Int) + 1 < (row.length : Int)) := by omega
          have c1 : ((i : Int) < (row.length : Int)) := by omega
          simp only [List.map_cons, List.map_nil] at tg cw
          generalize row.map D.int = z at *
          generalize tK sg2 = A at *
          generalize kyI [27] = K at *
          simp [forF_eq, d__law_read_l1, zl, hi, hi2, x1, c1, c2, slice_lst, cw, getD_tGet, ho, tg, lk, tl, tl2]
      · have cw : cut (row.map D.int) (some (i : Int)) (some ((i : Int) + 1)) = [row.getD i 0].map D.int := by
          have := cut_win (row.map D.int) i 1
          rw [show ((1 : Nat) : Int) = 1 from rfl, ← List.map_drop, d1] at this
          exact this
        have tg := tGet_ints [row.getD i 0] (tK sg2)
        have lk := lk [row.getD i 0]
        have n27 : n ≠ 27 := fun z => c (by rw [en, z]; rfl)
        rw [en, lk_one n hn n27, ← en] at lk
        have sx : stx (T, false) (row.getD i 0) = (T ++ [sgN (row.getD i 0)], false) := by
          unfold stx
          rw [if_neg (by simp), if_neg c]
        rw [sx] at r4
        refine ⟨(T ++ [sgN (row.getD i 0)], i + 1), ⟨by show i + 1 ≤ _; omega, by show k + 1 ≤ i + 1 ∨ _; omega, by simp; omega, r4⟩, ?_⟩
        have c1 : ((i : Int) < (row.length : Int)) := by omega
        simp only [List.map_cons, List.map_nil] at tg cw
        generalize row.map D.int = z at *
        generalize tK sg2 = A at *
        generalize kyI [row.getD i 0] = K at *
        generalize row.getD i 0 = x at *
        simp [forF_eq, d__law_read_l1, zl, hi, x1, c, c1, slice_lst, cw, getD_tGet, ho, tg, lk, tl, tl2]
    · refine ⟨(T, i), ⟨r1, .inr (by show i = _; omega), r3, r4⟩, ?_⟩
      have c1 : ¬ ((i : Int) < (row.length : Int)) := by omega
      generalize row.map D.int = z at *
      simp [forF_eq, d__law_read_l1, zl, hi, c1])
  obtain ⟨T, i⟩ := q
  obtain ⟨r1, r2, r3, r4⟩ := R
  dsimp only at r1 r2 r3 r4 key
  rw [List.length_range] at r2
  have ei : i = row.length := by omega
  rw [ei, List.drop_length] at r4
  have r4 : T = txo row := r4
  rw [r4, show ((0 : Nat) : Int) = 0 from rfl] at key
  have zl : (row.map D.int).length = row.length := List.length_map _
  have sm : small62 (row.length : Int) = true := small62_nat (by omega)
  have rl : row.length ≤ 16777216 := by omega
  generalize row.map D.int = z at *
  generalize txo row = X at *
  simp [evF_eq, d__law_read, zl, sm, rngL_one, rl, key]
theorem txo_all {row : List Int} (h : smI row) : AllS (txo row) := by
  have st : ∀ (r : List Int) (q : List Nat × Bool), smI r → AllS q.1 → AllS (r.foldl stx q).1 := by
    intro r
    induction r with
    | nil => exact fun q _ h => h
    | cons x r ih =>
      intro q hr hq
      obtain ⟨n, hn, e⟩ := hr x List.mem_cons_self
      obtain ⟨g1, g2⟩ := sg_all n (List.mem_range.mpr hn)
      refine ih _ (fun y hy => hr y (List.mem_cons_of_mem _ hy)) ?_
      unfold stx
      split
      · exact hq.app fun c hc => by rw [List.mem_singleton.mp hc, e]; exact g2
      · split
        · exact hq
        · exact hq.app fun c hc => by rw [List.mem_singleton.mp hc, e]; exact g1
  have := st row ([], false) h (fun _ h => nomatch h)
  unfold txo fin
  split
  · exact this.app fun c hc => by rw [List.mem_singleton.mp hc]; decide
  · exact this
theorem row_loop {N : Store} {s0 s1 s2 s3 s5 s7 s8 : Option D} {v : Int} {r : List Int} {n : Nat} (hn : r.length = n) (hl : n ≤ 100) (hs : smI r) :
    ∃ r', r'.length = n ∧ smI r' ∧ forL none K_law_l1 F_law_l1 ((List.range n).map fun i : Nat => D.int (i : Int)) [s0, s1, s2, s3, some (.int v), s5, some (.oid N.length), s7, s8, none, none] (N ++ [.lst (r.map D.int)]) = some (.nx [s0, s1, s2, s3, some (.int v), s5, some (.oid N.length), s7, s8, none, none] (N ++ [.lst (r'.map D.int)])) := by
  obtain ⟨r', ⟨h1, h2⟩, key⟩ := forL_P (g := none) (kl := K_law_l1) (F := F_law_l1) (fun i : Nat => D.int (i : Int)) (fun r : List Int => ([s0, s1, s2, s3, some (.int v), s5, some (.oid N.length), s7, s8, none, none], N ++ [.lst (r.map D.int)])) (fun _ r => r.length = n ∧ smI r) (List.range n) r ⟨hn, hs⟩ (fun _ _ _ => trivial) (fun _ _ => rfl) (fun k i r hk R => by
    obtain ⟨r1, r2⟩ := R
    have hkn : k < n := by have := (List.getElem?_eq_some_iff.mp hk).1; simpa using this
    rw [List.getElem?_range hkn] at hk
    cases hk
    have zl : (r.map D.int).length = n := by rw [List.length_map]; exact r1
    have sm : smI (r.set k 27) := fun x hx => by
      rcases List.mem_or_eq_of_mem_set hx with h | h
      · exact r2 x h
      · exact ⟨27, by decide, h⟩
    have es : (r.set k 27).map D.int = (r.map D.int).set k (.int 27) := List.map_set
    by_cases c1 : v / 11 % 2 = 1
    · by_cases c2 : (k : Int) % 3 = v % 3
      · refine ⟨r.set k 27, ⟨by rw [List.length_set]; exact r1, sm⟩, ?_⟩
        rw [es]
        generalize r.map D.int = z at *
        simp [forF_eq, d_law_l1, eq_true c1, eq_true c2, zl, hkn, ixN_nat hkn]
      · refine ⟨r, ⟨r1, r2⟩, ?_⟩
        generalize r.map D.int = z at *
        simp [forF_eq, d_law_l1, eq_true c1, eq_false c2]
    · refine ⟨r, ⟨r1, r2⟩, ?_⟩
      generalize r.map D.int = z at *
      simp [forF_eq, d_law_l1, eq_false c1])
  exact ⟨r', h1, h2, key⟩
theorem turn_ok (z : List D) (o : Nat) (t : Nat) (ht : t < 30) (c : Int) (M : Store) (ho : M[o]? = some (.dt (tK sg2))) : ∃ M' : Store, M'[o]? = some (.dt (tK sg2)) ∧ killN K_law_l2 (F_law_l2 (.tup [.int (t : Int), .int c]) [some (.scr z), some (.oid o), none, none, none, none, none, none, none, none, none] M) = some (.nx [some (.scr z), some (.oid o), none, none, none, none, none, none, none, none, none] M') := by
  have mx := mixed_eq (c := c) (t := t) (M := M) (by omega)
  have v0 := mixed_nonneg c t
  generalize mixed c t = v at *
  obtain ⟨a, al, as, ta⟩ := law_text M v0
  have oka := as.ok
  have sp := septets_ok (M := M) as (by omega)
  have sl := sepI_len a
  have tb := txo_sep as
  obtain ⟨M2, k2, b2⟩ := law_septets (M := M ++ [.lst ((sepI a).map D.int)]) (a := a) (by omega)
  have m2 : M2[M.length]? = some (.lst ((sepI a).map D.int)) := k2 _ _ (by simp)
  have o2 := k2 _ _ (get_app _ ho)
  have b3 := text_of_ok (M := M2) (d := .lst ((sepI a).map D.int)) (g := none) (row := sepI a) rfl (by omega) rfl trivial
  rw [tb] at b3
  have o3 := get_app [.dk (sK sgl), .dk (dK xtl)] o2
  have qe : ∀ N n, eqL N (n + 1) ((sepI a).map D.int) ((sepI a).map D.int) = some true := fun N n => by rw [eqL_ints]; simp
  generalize (sepI a).map D.int = S at *
  generalize M2 ++ [.dk (sK sgl), .dk (dK xtl)] = M3 at *
  obtain ⟨k, hk⟩ := Int.eq_ofNat_of_zero_le (show 0 ≤ v / 7 % ((a.length : Int) + 1) from Int.emod_nonneg _ (by omega))
  have od : okDiv ((a.length : Int) + 1) = true := okDiv_le (by omega) (by omega)
  have dp : (0 : Int) < (a.length : Int) + 1 := by omega
  have c96 : 96 ∉ sgl := by decide
  have lk : (a.take k ++ 96 :: a.drop k).length ≤ 1000 := by simp; omega
  obtain ⟨N4, b4⟩ := refused_ok (M := M3) (u := a.take k) (t := a.drop k) (fun c hc => as c (List.mem_of_mem_take hc)) c96 lk
  have o4 := get_app N4 o3
  have p1 : cut a none (some (k : Int)) = a.take k := cut_to a k
  have p2 : cut a (some (k : Int)) none = a.drop k := cut_from a k
  have l1 : (a.take k).length + 1 ≤ 16777216 := by rw [List.length_take]; omega
  have l2 : (a.take k).length + 1 + (a.drop k).length ≤ 16777216 := by rw [List.length_take, List.length_drop]; omega
  have all : a.length ≤ 16777216 := by omega
  generalize a.take k = u at *
  generalize a.drop k = w at *
  generalize M3 ++ N4 = M4 at *
  obtain ⟨n, hn⟩ := Int.eq_ofNat_of_zero_le (show 0 ≤ v / 5 % 21 by omega)
  have n20 : n ≤ 20 := by omega
  have c0 := compL_ints (F := B_law_c1 [some (.scr z), some (.oid o), some (.int (t : Int)), some (.int c), some (.int v), some (.str (tx a)), some (.oid M.length), some (.str (tx a)), some (.int (k : Int)), none, none]) (M := M4) (g := none) trivial (fun i : Nat => D.int (i : Int)) (fun i : Nat => (v / ((i : Int) + 1) + 3 * (i : Int)) % 128) (List.range n) (fun i hi => by
    have hi := List.mem_range.mp hi
    have m1 : okMul 3 (i : Int) = true := okMul_of (by decide) (by omega)
    have m2 : okDiv ((i : Int) + 1) = true := okDiv_le (by omega) (by omega)
    have m3 : (0 : Int) < (i : Int) + 1 := by omega
    simp [compB_eq, m1, m2, m3])
  have s0 : smI ((List.range n).map fun i : Nat => (v / ((i : Int) + 1) + 3 * (i : Int)) % 128) := fun x hx => by
    obtain ⟨i, _, rfl⟩ := List.mem_map.mp hx
    exact ⟨((v / ((i : Int) + 1) + 3 * (i : Int)) % 128).toNat, by omega, by omega⟩
  have n0 : ((List.range n).map fun i : Nat => (v / ((i : Int) + 1) + 3 * (i : Int)) % 128).length = n := by simp
  generalize (List.range n).map (fun i : Nat => (v / ((i : Int) + 1) + 3 * (i : Int)) % 128) = r0 at *
  obtain ⟨r1, n1, s1, b5⟩ := row_loop (N := M4) (s0 := some (.scr z)) (s1 := some (.oid o)) (s2 := some (.int (t : Int))) (s3 := some (.int c)) (s5 := some (.str (tx a))) (s7 := some (.str (tx a))) (s8 := some (.int (k : Int))) (v := v) n0 (by omega) s0
  have b6 := text_of_ok (M := M4 ++ [.lst (r1.map D.int)]) (d := .oid M4.length) (g := some (M4.length, r1.map D.int)) (row := r1) rfl (by omega) (by simp) (by simp [gdOk_some])
  have o5 := get_app [.lst (r1.map D.int)] o4
  have o6 := get_app [.dk (sK sgl), .dk (dK xtl)] o5
  have b7 := read_ok o6 (by omega) s1
  have okx := (txo_all s1).ok
  have x6 : (M4 ++ [.lst (r1.map D.int)] ++ [.dk (sK sgl), .dk (dK xtl)])[M4.length]? = some (.lst (r1.map D.int)) := by simp
  have z0 : (r0.map D.int).length = n := by rw [List.length_map]; exact n0
  have qe1 : ∀ N m, eqL N (m + 1) (r1.map D.int) (r1.map D.int) = some true := fun N m => by rw [eqL_ints]; simp
  have sm : small62 (n : Int) = true := small62_nat (by omega)
  have nl : n ≤ 16777216 := by omega
  generalize txo r1 = X at *
  generalize r1.map D.int = R1 at *
  generalize r0.map D.int = R0 at *
  generalize hM6 : M4 ++ [.lst R1] ++ [.dk (sK sgl), .dk (dK xtl)] = M6 at *
  refine ⟨M6, o6, ?_⟩
  simp [forF_eq, d_law_l2, mx, ta, sp, b2, m2, qe, b3, oka, od, dp, hk, slice_tx, all, p1, p2, l1, l2, b4, hn, sm, rngL_one, nl, c0, z0, b5, b6, b7, okx, x6, qe1]
theorem p_law : ∀ ns : List Int, ns.length ≤ 63 → ∃ M, evF EV 11 d_law [.scr (ns.map D.int)] [] = some (.ok (.bl true) M) := fun ns hn => by
  have sp := septets_ok (M := []) (a := []) (fun _ h => nomatch h) (by decide)
  have tx0 := text_of_ok (M := [Ob.lst []]) (d := .lst []) (g := none) (row := []) rfl (by decide) rfl trivial
  have e1 : txo [] = [] := rfl
  have e2 : (sepI []).map D.int = [] := rfl
  have e3 : tx ([] : List Nat) = tx [] := rfl
  rw [e1] at tx0
  rw [e2] at sp
  generalize hM0 : [Ob.lst []] ++ [.dk (sK sgl), .dk (dK xtl)] = M0 at *
  obtain ⟨M1, h1, h2⟩ := law_table (M := M0)
  have e : cut (ns.map D.int) none (some 30) = (ns.take 30).map D.int := by rw [List.map_take]; exact cut_to (ns.map D.int) 30
  obtain ⟨M', _, h⟩ := forL_inv (g := none) (kl := K_law_l2) (F := F_law_l2) (δ := [some (.scr (ns.map D.int)), some (.oid M0.length), none, none, none, none, none, none, none, none, none]) rfl (fun _ N => N[M0.length]? = some (.dt (tK sg2))) (fun _ _ _ => trivial) ((List.range (ns.take 30).length).map fun i : Nat => D.tup [.int (i : Int), .int ((ns.take 30).getD i 0)]) 0 M1 h1 (fun i N x hx p => by
    rw [List.getElem?_map] at hx
    obtain ⟨j, hj, rfl⟩ := Option.map_eq_some_iff.mp hx
    have hi := (List.getElem?_eq_some_iff.mp hj).1
    rw [List.length_range, List.length_take] at hi
    rw [List.getElem?_range (by rw [List.length_take]; exact hi)] at hj
    cases hj
    exact turn_ok _ _ i (by omega) _ N p)
  rw [← enum_rng D.int (ns.take 30) 0] at h
  refine ⟨M', ?_⟩
  generalize (ns.take 30).map D.int = z1 at *
  generalize ns.map D.int = z at *
  simp at sp
  simp [evF_eq, d_law, sp, tx0, h2, slice_scr, e, h]

end Lw
namespace Lw
open PySem L2 Mo
theorem b_0 : ∀ f, CtrB (EV_0.fn f) := fun _ => none_bd
theorem b_1 : ∀ f, CtrB (EV_1.fn f) := snoc_bd b_0 (arC_bd (evF_bd b_0 rfl o_write_sign))
theorem p_write_sign : Cln 1 C_write_sign (evF EV 1 d_write_sign) := e_write_sign ▸ cln_self (evF_bd b_0 rfl o_write_sign)
theorem b_2 : ∀ f, CtrB (EV_2.fn f) := snoc_bd b_1 (arC_bd (evF_bd b_1 rfl o_single_signs))
theorem p_single_signs : Cln 0 C_single_signs (evF EV 1 d_single_signs) := e_single_signs ▸ cln_self (evF_bd b_1 rfl o_single_signs)
theorem b_3 : ∀ f, CtrB (EV_3.fn f) := snoc_bd b_2 (arC_bd (evF_bd b_2 rfl o_double_signs))
theorem p_double_signs : Cln 0 C_double_signs (evF EV 1 d_double_signs) := e_double_signs ▸ cln_self (evF_bd b_2 rfl o_double_signs)
theorem b_4 : ∀ f, CtrB (EV_4.fn f) := snoc_bd b_3 (arC_bd (evF_bd b_3 rfl o_text_of))
theorem p_text_of : Cln 1 C_text_of (evF EV 6 d_text_of) := e_text_of ▸ cln_self (evF_bd b_3 rfl o_text_of)
theorem b_5 : ∀ f, CtrB (EV_5.fn f) := snoc_bd b_4 (arC_bd (evF_bd b_4 rfl o_septets))
theorem p_septets : Cln 1 C_septets (evF EV 3 d_septets) := e_septets ▸ cln_self (evF_bd b_4 rfl o_septets)
theorem b_6 : ∀ f, CtrB (EV_6.fn f) := snoc_bd b_5 (arC_bd (evF_bd b_5 rfl o__law_signs))
theorem p__law_signs : Cln 0 C__law_signs (evF EV 1 d__law_signs) := e__law_signs ▸ cln_self (evF_bd b_5 rfl o__law_signs)
theorem b_7 : ∀ f, CtrB (EV_7.fn f) := snoc_bd b_6 (arC_bd (evF_bd b_6 rfl o__law_septets))
theorem p__law_septets : Cln 1 C__law_septets (evF EV 5 d__law_septets) := e__law_septets ▸ cln_self (evF_bd b_6 rfl o__law_septets)
theorem b_8 : ∀ f, CtrB (EV_8.fn f) := snoc_bd b_7 (arC_bd (evF_bd b_7 rfl o__law_table))
theorem p__law_table : Cln 0 C__law_table (evF EV 2 d__law_table) := e__law_table ▸ cln_self (evF_bd b_7 rfl o__law_table)
theorem b_9 : ∀ f, CtrB (EV_9.fn f) := snoc_bd b_8 (cln_bd p__law_mixed)
theorem b_10 : ∀ f, CtrB (EV_10.fn f) := snoc_bd b_9 (arC_bd (evF_bd b_9 rfl o__law_text))
theorem p__law_text : Cln 2 C__law_text (evF EV 8 d__law_text) := e__law_text ▸ cln_self (evF_bd b_9 rfl o__law_text)
theorem b_11 : ∀ f, CtrB (EV_11.fn f) := snoc_bd b_10 (arC_bd (evF_bd b_10 rfl o__law_refused))
theorem p__law_refused : Cln 1 C__law_refused (evF EV 1 d__law_refused) := e__law_refused ▸ cln_self (evF_bd b_10 rfl o__law_refused)
theorem b_12 : ∀ f, CtrB (EV_12.fn f) := snoc_bd b_11 (arC_bd (evF_bd b_11 rfl o__law_read))
theorem p__law_read : Cln 2 C__law_read (evF EV 6 d__law_read) := e__law_read ▸ cln_self (evF_bd b_11 rfl o__law_read)
theorem all_mk {P : Program} {w : World} {K : PySem.W.Frag} {h : Heap} {mg : Str → Option Value} {fa A0 A1 f0 f1 f2 f3 f4 f5 f6 f7 f8 f9 f10 f11 f12 td0 td1 : Addr} (X : K.In h) (G : h.Ns mainGlobals mg) (hfa : mg "law" = some (.ref fa))
    {oc0 kV0 dc0 pm0 cd0 ct0 : Value} {od0 an0 : Option Addr} {sl0 : Array (Option Value)}
    {oc1 kV1 dc1 pm1 cd1 ct1 : Value} {od1 an1 : Option Addr} {sl1 : Array (Option Value)}
    {oc2 kV2 dc2 pm2 cd2 ct2 : Value} {od2 an2 : Option Addr} {sl2 : Array (Option Value)}
    {oc3 kV3 dc3 pm3 cd3 ct3 : Value} {od3 an3 : Option Addr} {sl3 : Array (Option Value)}
    {oc4 kV4 dc4 pm4 cd4 ct4 : Value} {od4 an4 : Option Addr} {sl4 : Array (Option Value)}
    {oc5 kV5 dc5 pm5 cd5 ct5 : Value} {od5 an5 : Option Addr} {sl5 : Array (Option Value)}
    {oc6 kV6 dc6 pm6 cd6 ct6 : Value} {od6 an6 : Option Addr} {sl6 : Array (Option Value)}
    {oc7 kV7 dc7 pm7 cd7 ct7 : Value} {od7 an7 : Option Addr} {sl7 : Array (Option Value)}
    {oc8 kV8 dc8 pm8 cd8 ct8 : Value} {od8 an8 : Option Addr} {sl8 : Array (Option Value)}
    {oc9 kV9 dc9 pm9 cd9 ct9 : Value} {od9 an9 : Option Addr} {sl9 : Array (Option Value)}
    {oc10 kV10 dc10 pm10 cd10 ct10 : Value} {od10 an10 : Option Addr} {sl10 : Array (Option Value)}
    {oc11 kV11 dc11 pm11 cd11 ct11 : Value} {od11 an11 : Option Addr} {sl11 : Array (Option Value)}
    {oc12 kV12 dc12 pm12 cd12 ct12 : Value} {od12 an12 : Option Addr} {sl12 : Array (Option Value)}
    {gt0 : Tok}
    {gt1 : Tok}
    {tn0 : Nat} {th0_0 th0_1 th0_2 th0_3 th0_4 th0_5 th0_6 th0_7 : Int} {tk0_0 tu0_0 tk0_1 tu0_1 tk0_2 tu0_2 tk0_3 tu0_3 tk0_4 tu0_4 tk0_5 tu0_5 tk0_6 tu0_6 tk0_7 tu0_7 : Tok}
    {tn1 : Nat} {th1_0 th1_1 th1_2 : Int} {tk1_0 tu1_0 tk1_1 tu1_1 tk1_2 tu1_2 : Tok}
    (aC0 : PySem.W.nsIn K mainGlobals "MobileError" = some (some (.ref A0)))
    (aC1 : PySem.W.nsIn K mainGlobals "BadText" = some (some (.ref A1)))
    (xk0 : PySem.W.keepIn K (.ref A0) = true)
    (xe0 : PySem.W.subIn K (.ref A0) (.type "BaseException") = some true)
    (xt0 : PySem.W.typeIn K (.ref A0) = some (.type "type"))
    (xg0 : PySem.W.findIn K (.ref A0) "__getattribute__" = some (some (.builtin "BaseException.__getattribute__")))
    (xa0 : PySem.W.findIn K (.ref A0) "__getattr__" = some none)
    (xh0 : PySem.W.hasDictIn K A0 = true)
    (xn0 : PySem.W.excIn K A0 [.type "ValueError", .type "Exception", .type "BaseException", .type "object"] "ValueError.__new__" = true)
    (xk1 : PySem.W.keepIn K (.ref A1) = true)
    (xe1 : PySem.W.subIn K (.ref A1) (.type "BaseException") = some true)
    (xt1 : PySem.W.typeIn K (.ref A1) = some (.type "type"))
    (xg1 : PySem.W.findIn K (.ref A1) "__getattribute__" = some (some (.builtin "BaseException.__getattribute__")))
    (xa1 : PySem.W.findIn K (.ref A1) "__getattr__" = some none)
    (xh1 : PySem.W.hasDictIn K A1 = true)
    (xn1 : PySem.W.excIn K A1 [.type "ValueError", .type "Exception", .type "BaseException", .type "object"] "ValueError.__new__" = true)
    (ic0 : PySem.W.isClsIn K A0 = true)
    (ic1 : PySem.W.isClsIn K A1 = true)
    (xm0_0 : PySem.W.subIn K (.ref A0) (.ref A0) = some true)
    (xm0_1 : PySem.W.subIn K (.ref A0) (.ref A1) = some false)
    (xm1_0 : PySem.W.subIn K (.ref A1) (.ref A0) = some true)
    (xm1_1 : PySem.W.subIn K (.ref A1) (.ref A1) = some true)
    (at0 : PySem.W.nsIn K mainGlobals "write_sign" = some (some (.ref f0)))
    (lk0 : K.lookup f0 = some ⟨oc0, od0, .func (PySem.W.fnOf "write_sign" "write_sign" (defArgs t_write_sign) (defBody t_write_sign) (defScope t_write_sign) .none kV0 dc0 pm0 an0 cd0 ct0), sl0⟩)
    (cd_0 : PySem.W.codeIn K cd0 "write_sign" = true)
    (kp0 : PySem.W.keepIn K (.ref f0) = true)
    (at1 : PySem.W.nsIn K mainGlobals "single_signs" = some (some (.ref f1)))
    (lk1 : K.lookup f1 = some ⟨oc1, od1, .func (PySem.W.fnOf "single_signs" "single_signs" (defArgs t_single_signs) (defBody t_single_signs) (defScope t_single_signs) .none kV1 dc1 pm1 an1 cd1 ct1), sl1⟩)
    (cd_1 : PySem.W.codeIn K cd1 "single_signs" = true)
    (kp1 : PySem.W.keepIn K (.ref f1) = true)
    (at2 : PySem.W.nsIn K mainGlobals "double_signs" = some (some (.ref f2)))
    (lk2 : K.lookup f2 = some ⟨oc2, od2, .func (PySem.W.fnOf "double_signs" "double_signs" (defArgs t_double_signs) (defBody t_double_signs) (defScope t_double_signs) .none kV2 dc2 pm2 an2 cd2 ct2), sl2⟩)
    (cd_2 : PySem.W.codeIn K cd2 "double_signs" = true)
    (kp2 : PySem.W.keepIn K (.ref f2) = true)
    (at3 : PySem.W.nsIn K mainGlobals "text_of" = some (some (.ref f3)))
    (lk3 : K.lookup f3 = some ⟨oc3, od3, .func (PySem.W.fnOf "text_of" "text_of" (defArgs t_text_of) (defBody t_text_of) (defScope t_text_of) .none kV3 dc3 pm3 an3 cd3 ct3), sl3⟩)
    (cd_3 : PySem.W.codeIn K cd3 "text_of" = true)
    (kp3 : PySem.W.keepIn K (.ref f3) = true)
    (at4 : PySem.W.nsIn K mainGlobals "septets" = some (some (.ref f4)))
    (lk4 : K.lookup f4 = some ⟨oc4, od4, .func (PySem.W.fnOf "septets" "septets" (defArgs t_septets) (defBody t_septets) (defScope t_septets) .none kV4 dc4 pm4 an4 cd4 ct4), sl4⟩)
    (cd_4 : PySem.W.codeIn K cd4 "septets" = true)
    (kp4 : PySem.W.keepIn K (.ref f4) = true)
    (at5 : PySem.W.nsIn K mainGlobals "_law_signs" = some (some (.ref f5)))
    (lk5 : K.lookup f5 = some ⟨oc5, od5, .func (PySem.W.fnOf "_law_signs" "_law_signs" (defArgs t__law_signs) (defBody t__law_signs) (defScope t__law_signs) .none kV5 dc5 pm5 an5 cd5 ct5), sl5⟩)
    (cd_5 : PySem.W.codeIn K cd5 "_law_signs" = true)
    (kp5 : PySem.W.keepIn K (.ref f5) = true)
    (at6 : PySem.W.nsIn K mainGlobals "_law_septets" = some (some (.ref f6)))
    (lk6 : K.lookup f6 = some ⟨oc6, od6, .func (PySem.W.fnOf "_law_septets" "_law_septets" (defArgs t__law_septets) (defBody t__law_septets) (defScope t__law_septets) .none kV6 dc6 pm6 an6 cd6 ct6), sl6⟩)
    (cd_6 : PySem.W.codeIn K cd6 "_law_septets" = true)
    (kp6 : PySem.W.keepIn K (.ref f6) = true)
    (at7 : PySem.W.nsIn K mainGlobals "_law_table" = some (some (.ref f7)))
    (lk7 : K.lookup f7 = some ⟨oc7, od7, .func (PySem.W.fnOf "_law_table" "_law_table" (defArgs t__law_table) (defBody t__law_table) (defScope t__law_table) .none kV7 dc7 pm7 an7 cd7 ct7), sl7⟩)
    (cd_7 : PySem.W.codeIn K cd7 "_law_table" = true)
    (kp7 : PySem.W.keepIn K (.ref f7) = true)
    (at8 : PySem.W.nsIn K mainGlobals "_law_mixed" = some (some (.ref f8)))
    (lk8 : K.lookup f8 = some ⟨oc8, od8, .func (PySem.W.fnOf "_law_mixed" "_law_mixed" (defArgs t__law_mixed) (defBody t__law_mixed) (defScope t__law_mixed) .none kV8 dc8 pm8 an8 cd8 ct8), sl8⟩)
    (cd_8 : PySem.W.codeIn K cd8 "_law_mixed" = true)
    (kp8 : PySem.W.keepIn K (.ref f8) = true)
    (at9 : PySem.W.nsIn K mainGlobals "_law_text" = some (some (.ref f9)))
    (lk9 : K.lookup f9 = some ⟨oc9, od9, .func (PySem.W.fnOf "_law_text" "_law_text" (defArgs t__law_text) (defBody t__law_text) (defScope t__law_text) .none kV9 dc9 pm9 an9 cd9 ct9), sl9⟩)
    (cd_9 : PySem.W.codeIn K cd9 "_law_text" = true)
    (kp9 : PySem.W.keepIn K (.ref f9) = true)
    (at10 : PySem.W.nsIn K mainGlobals "_law_refused" = some (some (.ref f10)))
    (lk10 : K.lookup f10 = some ⟨oc10, od10, .func (PySem.W.fnOf "_law_refused" "_law_refused" (defArgs t__law_refused) (defBody t__law_refused) (defScope t__law_refused) .none kV10 dc10 pm10 an10 cd10 ct10), sl10⟩)
    (cd_10 : PySem.W.codeIn K cd10 "_law_refused" = true)
    (kp10 : PySem.W.keepIn K (.ref f10) = true)
    (at11 : PySem.W.nsIn K mainGlobals "_law_read" = some (some (.ref f11)))
    (lk11 : K.lookup f11 = some ⟨oc11, od11, .func (PySem.W.fnOf "_law_read" "_law_read" (defArgs t__law_read) (defBody t__law_read) (defScope t__law_read) .none kV11 dc11 pm11 an11 cd11 ct11), sl11⟩)
    (cd_11 : PySem.W.codeIn K cd11 "_law_read" = true)
    (kp11 : PySem.W.keepIn K (.ref f11) = true)
    (at12 : PySem.W.nsIn K mainGlobals "law" = some (some (.ref f12)))
    (lk12 : K.lookup f12 = some ⟨oc12, od12, .func (PySem.W.fnOf "law" "law" (defArgs t_law) (defBody t_law) (defScope t_law) .none kV12 dc12 pm12 an12 cd12 ct12), sl12⟩)
    (cd_12 : PySem.W.codeIn K cd12 "law" = true)
    (kp12 : PySem.W.keepIn K (.ref f12) = true)
    (gb0 : PySem.W.nsIn K mainGlobals "ESCAPE" = some (some (.int 27 gt0)))
    (gb1 : PySem.W.nsIn K mainGlobals "SIGNS" = some (some (.str (⟨#[10, 32, 33, 34, 35, 36, 38, 39, 40, 41, 42, 43, 44, 45, 46, 47, 48, 49, 50, 51, 52, 53, 54, 55, 56, 57, 58, 59, 60, 61, 62, 63, 64, 65, 66, 67, 68, 69, 70, 71, 72, 73, 74, 75, 76, 77, 78, 79, 80, 81, 82, 83, 84, 85, 86, 87, 88, 89, 90, 91, 92, 93, 94, 95, 97, 98, 99, 100, 101, 102, 103, 104, 105, 106, 107, 108, 109, 110, 111, 112, 113, 114, 115, 116, 117, 118, 119, 120, 121, 122, 123, 124, 125, 126]⟩ : Str) gt1)))
    (tg0 : PySem.W.nsIn K mainGlobals "EXTENDED" = some (some (.ref td0)))
    (tl0 : K.lookup td0 = some ⟨.type "dict", none, .dict ⟨[⟨th0_0, .str (⟨#[94]⟩ : Str) tk0_0, (.int 20 tu0_0)⟩, ⟨th0_1, .str (⟨#[123]⟩ : Str) tk0_1, (.int 40 tu0_1)⟩, ⟨th0_2, .str (⟨#[125]⟩ : Str) tk0_2, (.int 41 tu0_2)⟩, ⟨th0_3, .str (⟨#[92]⟩ : Str) tk0_3, (.int 47 tu0_3)⟩, ⟨th0_4, .str (⟨#[91]⟩ : Str) tk0_4, (.int 60 tu0_4)⟩, ⟨th0_5, .str (⟨#[126]⟩ : Str) tk0_5, (.int 61 tu0_5)⟩, ⟨th0_6, .str (⟨#[93]⟩ : Str) tk0_6, (.int 62 tu0_6)⟩, ⟨th0_7, .str (⟨#[124]⟩ : Str) tk0_7, (.int 64 tu0_7)⟩]⟩ tn0, #[]⟩)
    (ts0 : (td0 == sysModules) = false)
    (tq0_0 : th0_0 = PyData.keyHash w.params (⟨#[94]⟩ : Str))
    (tq0_1 : th0_1 = PyData.keyHash w.params (⟨#[123]⟩ : Str))
    (tq0_2 : th0_2 = PyData.keyHash w.params (⟨#[125]⟩ : Str))
    (tq0_3 : th0_3 = PyData.keyHash w.params (⟨#[92]⟩ : Str))
    (tq0_4 : th0_4 = PyData.keyHash w.params (⟨#[91]⟩ : Str))
    (tq0_5 : th0_5 = PyData.keyHash w.params (⟨#[126]⟩ : Str))
    (tq0_6 : th0_6 = PyData.keyHash w.params (⟨#[93]⟩ : Str))
    (tq0_7 : th0_7 = PyData.keyHash w.params (⟨#[124]⟩ : Str))
    (tg1 : PySem.W.nsIn K mainGlobals "MOVED" = some (some (.ref td1)))
    (tl1 : K.lookup td1 = some ⟨.type "dict", none, .dict ⟨[⟨th1_0, .str (⟨#[64]⟩ : Str) tk1_0, (.int 0 tu1_0)⟩, ⟨th1_1, .str (⟨#[36]⟩ : Str) tk1_1, (.int 2 tu1_1)⟩, ⟨th1_2, .str (⟨#[95]⟩ : Str) tk1_2, (.int 17 tu1_2)⟩]⟩ tn1, #[]⟩)
    (ts1 : (td1 == sysModules) = false)
    (tq1_0 : th1_0 = PyData.keyHash w.params (⟨#[64]⟩ : Str))
    (tq1_1 : th1_1 = PyData.keyHash w.params (⟨#[36]⟩ : Str))
    (tq1_2 : th1_2 = PyData.keyHash w.params (⟨#[95]⟩ : Str))
    (z_enumerate : PySem.W.nsIn K mainGlobals "enumerate" = some none)
    (z_int : PySem.W.nsIn K mainGlobals "int" = some none)
    (z_isinstance : PySem.W.nsIn K mainGlobals "isinstance" = some none)
    (z_len : PySem.W.nsIn K mainGlobals "len" = some none)
    (z_list : PySem.W.nsIn K mainGlobals "list" = some none)
    (z_ord : PySem.W.nsIn K mainGlobals "ord" = some none)
    (z_range : PySem.W.nsIn K mainGlobals "range" = some none)
    (z_str : PySem.W.nsIn K mainGlobals "str" = some none)
    (z_tuple : PySem.W.nsIn K mainGlobals "tuple" = some none)
    : ∃ fd : FuncData, (∀ (s : Shared) (u : Value), BindsTo s fd ⟨[u], []⟩ [("_law_script", u)]) ∧ ∀ base : Heap, K.In base → base.Ns mainGlobals mg → FnOk P w K mg base (L2.CX P w) 4 fa fd ["_law_script"] (spLawM K) := by
  have e := hfa.symm.trans (PySem.W.mg_of X G at12)
  cases e
  have F0 := fun_mk (st := t_write_sign) lk0 cd_0 kp0
  have B0 := F0.binds (ps := ["sign"]) fun _ _ _ _ _ _ us hl => match us, hl with | [_], _ => rfl
  have F1 := fun_mk (st := t_single_signs) lk1 cd_1 kp1
  have B1 := F1.binds (ps := []) fun _ _ _ _ _ _ us hl => match us, hl with | [], _ => rfl
  have F2 := fun_mk (st := t_double_signs) lk2 cd_2 kp2
  have B2 := F2.binds (ps := []) fun _ _ _ _ _ _ us hl => match us, hl with | [], _ => rfl
  have F3 := fun_mk (st := t_text_of) lk3 cd_3 kp3
  have B3 := F3.binds (ps := ["row"]) fun _ _ _ _ _ _ us hl => match us, hl with | [_], _ => rfl
  have F4 := fun_mk (st := t_septets) lk4 cd_4 kp4
  have B4 := F4.binds (ps := ["text"]) fun _ _ _ _ _ _ us hl => match us, hl with | [_], _ => rfl
  have F5 := fun_mk (st := t__law_signs) lk5 cd_5 kp5
  have B5 := F5.binds (ps := []) fun _ _ _ _ _ _ us hl => match us, hl with | [], _ => rfl
  have F6 := fun_mk (st := t__law_septets) lk6 cd_6 kp6
  have B6 := F6.binds (ps := ["_law_text_here"]) fun _ _ _ _ _ _ us hl => match us, hl with | [_], _ => rfl
  have F7 := fun_mk (st := t__law_table) lk7 cd_7 kp7
  have B7 := F7.binds (ps := []) fun _ _ _ _ _ _ us hl => match us, hl with | [], _ => rfl
  have F8 := fun_mk (st := t__law_mixed) lk8 cd_8 kp8
  have B8 := F8.binds (ps := ["_law_cell", "_law_turn"]) fun _ _ _ _ _ _ us hl => match us, hl with | [_, _], _ => rfl
  have F9 := fun_mk (st := t__law_text) lk9 cd_9 kp9
  have B9 := F9.binds (ps := ["_law_value", "_law_most"]) fun _ _ _ _ _ _ us hl => match us, hl with | [_, _], _ => rfl
  have F10 := fun_mk (st := t__law_refused) lk10 cd_10 kp10
  have B10 := F10.binds (ps := ["_law_text_here"]) fun _ _ _ _ _ _ us hl => match us, hl with | [_], _ => rfl
  have F11 := fun_mk (st := t__law_read) lk11 cd_11 kp11
  have B11 := F11.binds (ps := ["_law_table_here", "_law_row"]) fun _ _ _ _ _ _ us hl => match us, hl with | [_, _], _ => rfl
  have F12 := fun_mk (st := t_law) lk12 cd_12 kp12
  refine ⟨PySem.W.fnOf "law" "law" (defArgs t_law) (defBody t_law) (defScope t_law) .none kV12 dc12 pm12 an12 cd12 ct12, fun s v => .of_eq rfl, fun base _ _ => ?_⟩
  let g : Gd := ⟨K, fun n => match n with
    | 0 => A0
    | 1 => A1
    | _ => 0⟩
  have E0 : ExKn K mg g "MobileError" 0 := ⟨PySem.W.mg_of X G aC0, xk0, ⟨_, _, _, _, F.excBase_ValueError, xn0⟩, xe0, xt0⟩
  have E1 : ExKn K mg g "BadText" 1 := ⟨PySem.W.mg_of X G aC1, xk1, ⟨_, _, _, _, F.excBase_ValueError, xn1⟩, xe1, xt1⟩
  have K0 : TOk T0 EV P w K mg base g := TOk.first rfl rfl ⟨E0, E1, trivial⟩
    (show tabAll K g 2 from (all_cons (all_cons (exm_of xe0 xe0 ic0 xt0 xm0_0) (all_cons (exm_of xe0 xe1 ic1 xt1 xm0_1) all_nil)) (all_cons (all_cons (exm_of xe1 xe0 ic0 xt0 xm1_0) (all_cons (exm_of xe1 xe1 ic1 xt1 xm1_1) all_nil)) all_nil)))
    (show ∀ i ∈ List.range 2, XfC K (g.ca i) from (all_cons ⟨xg0, xa0, xe0, xh0⟩ (all_cons ⟨xg1, xa1, xe1, xh1⟩ all_nil)))
    all_nil
    all_nil
    (all_cons ⟨_, (.int 27 : L2.V), PySem.W.mg_of X G gb0, ⟨_, rfl⟩, fun _ _ => rfl⟩ (all_cons ⟨_, (.str (⟨#[10, 32, 33, 34, 35, 36, 38, 39, 40, 41, 42, 43, 44, 45, 46, 47, 48, 49, 50, 51, 52, 53, 54, 55, 56, 57, 58, 59, 60, 61, 62, 63, 64, 65, 66, 67, 68, 69, 70, 71, 72, 73, 74, 75, 76, 77, 78, 79, 80, 81, 82, 83, 84, 85, 86, 87, 88, 89, 90, 91, 92, 93, 94, 95, 97, 98, 99, 100, 101, 102, 103, 104, 105, 106, 107, 108, 109, 110, 111, 112, 113, 114, 115, 116, 117, 118, 119, 120, 121, 122, 123, 124, 125, 126]⟩ : Str) : L2.V), PySem.W.mg_of X G gb1, ⟨_, rfl⟩, fun _ _ => rfl⟩ all_nil))
    (all_cons (PySem.W.mg_none_of X G z_enumerate) (all_cons (PySem.W.mg_none_of X G z_int) (all_cons (PySem.W.mg_none_of X G z_isinstance) (all_cons (PySem.W.mg_none_of X G z_len) (all_cons (PySem.W.mg_none_of X G z_list) (all_cons (PySem.W.mg_none_of X G z_ord) (all_cons (PySem.W.mg_none_of X G z_range) (all_cons (PySem.W.mg_none_of X G z_str) (all_cons (PySem.W.mg_none_of X G z_tuple) all_nil)))))))))
    (fun h => Bool.noConfusion (show false = true from h))
    (all_cons ⟨td0, _, tn0, PySem.W.mg_of X G tg0, ⟨tl0, ⟨⟨_, _, rfl, tq0_0⟩, ⟨⟨_, _, rfl, tq0_1⟩, ⟨⟨_, _, rfl, tq0_2⟩, ⟨⟨_, _, rfl, tq0_3⟩, ⟨⟨_, _, rfl, tq0_4⟩, ⟨⟨_, _, rfl, tq0_5⟩, ⟨⟨_, _, rfl, tq0_6⟩, ⟨⟨_, _, rfl, tq0_7⟩, trivial⟩⟩⟩⟩⟩⟩⟩⟩, ts0⟩, (show EsOk K [⟨th0_0, .str (⟨#[94]⟩ : Str) tk0_0, (.int 20 tu0_0)⟩, ⟨th0_1, .str (⟨#[123]⟩ : Str) tk0_1, (.int 40 tu0_1)⟩, ⟨th0_2, .str (⟨#[125]⟩ : Str) tk0_2, (.int 41 tu0_2)⟩, ⟨th0_3, .str (⟨#[92]⟩ : Str) tk0_3, (.int 47 tu0_3)⟩, ⟨th0_4, .str (⟨#[91]⟩ : Str) tk0_4, (.int 60 tu0_4)⟩, ⟨th0_5, .str (⟨#[126]⟩ : Str) tk0_5, (.int 61 tu0_5)⟩, ⟨th0_6, .str (⟨#[93]⟩ : Str) tk0_6, (.int 62 tu0_6)⟩, ⟨th0_7, .str (⟨#[124]⟩ : Str) tk0_7, (.int 64 tu0_7)⟩] tb_EXTENDED from (.cons (t := tk0_0) (v := (.int 20)) rfl ⟨_, rfl⟩ (fun _ _ => rfl) (.cons (t := tk0_1) (v := (.int 40)) rfl ⟨_, rfl⟩ (fun _ _ => rfl) (.cons (t := tk0_2) (v := (.int 41)) rfl ⟨_, rfl⟩ (fun _ _ => rfl) (.cons (t := tk0_3) (v := (.int 47)) rfl ⟨_, rfl⟩ (fun _ _ => rfl) (.cons (t := tk0_4) (v := (.int 60)) rfl ⟨_, rfl⟩ (fun _ _ => rfl) (.cons (t := tk0_5) (v := (.int 61)) rfl ⟨_, rfl⟩ (fun _ _ => rfl) (.cons (t := tk0_6) (v := (.int 62)) rfl ⟨_, rfl⟩ (fun _ _ => rfl) (.cons (t := tk0_7) (v := (.int 64)) rfl ⟨_, rfl⟩ (fun _ _ => rfl) .nil)))))))))⟩ (all_cons ⟨td1, _, tn1, PySem.W.mg_of X G tg1, ⟨tl1, ⟨⟨_, _, rfl, tq1_0⟩, ⟨⟨_, _, rfl, tq1_1⟩, ⟨⟨_, _, rfl, tq1_2⟩, trivial⟩⟩⟩, ts1⟩, (show EsOk K [⟨th1_0, .str (⟨#[64]⟩ : Str) tk1_0, (.int 0 tu1_0)⟩, ⟨th1_1, .str (⟨#[36]⟩ : Str) tk1_1, (.int 2 tu1_1)⟩, ⟨th1_2, .str (⟨#[95]⟩ : Str) tk1_2, (.int 17 tu1_2)⟩] tb_MOVED from (.cons (t := tk1_0) (v := (.int 0)) rfl ⟨_, rfl⟩ (fun _ _ => rfl) (.cons (t := tk1_1) (v := (.int 2)) rfl ⟨_, rfl⟩ (fun _ _ => rfl) (.cons (t := tk1_2) (v := (.int 17)) rfl ⟨_, rfl⟩ (fun _ _ => rfl) .nil))))⟩ all_nil))
  have G0 : FnOk P w K mg base (L2.CX P w) 1 f0 _ ["sign"] (spC g 1 C_write_sign) := (def_ok F0 s_write_sign K0 rfl rfl rfl rfl c_write_sign).imp (clean p_write_sign)
  have K1 : TOk T1 EV P w K mg base g := K0.snoc (kn := .fn "write_sign" 1 1) ⟨C_write_sign, rfl, ⟨f0, _, _, PySem.W.mg_of X G at0, kp0, B0, G0⟩⟩
  have G1 : FnOk P w K mg base (L2.CX P w) 2 f1 _ [] (spC g 0 C_single_signs) := (def_ok F1 s_single_signs K1 rfl rfl rfl rfl c_single_signs).imp (clean p_single_signs)
  have K2 : TOk T2 EV P w K mg base g := K1.snoc (kn := .fn "single_signs" 0 2) ⟨C_single_signs, rfl, ⟨f1, _, _, PySem.W.mg_of X G at1, kp1, B1, G1⟩⟩
  have G2 : FnOk P w K mg base (L2.CX P w) 1 f2 _ [] (spC g 0 C_double_signs) := (def_ok F2 s_double_signs K2 rfl rfl rfl rfl c_double_signs).imp (clean p_double_signs)
  have K3 : TOk T3 EV P w K mg base g := K2.snoc (kn := .fn "double_signs" 0 1) ⟨C_double_signs, rfl, ⟨f2, _, _, PySem.W.mg_of X G at2, kp2, B2, G2⟩⟩
  have G3 : FnOk P w K mg base (L2.CX P w) 3 f3 _ ["row"] (spC g 1 C_text_of) := (def_ok F3 s_text_of K3 rfl rfl rfl rfl c_text_of).imp (clean p_text_of)
  have K4 : TOk T4 EV P w K mg base g := K3.snoc (kn := .fn "text_of" 1 3) ⟨C_text_of, rfl, ⟨f3, _, _, PySem.W.mg_of X G at3, kp3, B3, G3⟩⟩
  have G4 : FnOk P w K mg base (L2.CX P w) 2 f4 _ ["text"] (spC g 1 C_septets) := (def_ok F4 s_septets K4 rfl rfl rfl rfl c_septets).imp (clean p_septets)
  have K5 : TOk T5 EV P w K mg base g := K4.snoc (kn := .fn "septets" 1 2) ⟨C_septets, rfl, ⟨f4, _, _, PySem.W.mg_of X G at4, kp4, B4, G4⟩⟩
  have G5 : FnOk P w K mg base (L2.CX P w) 1 f5 _ [] (spC g 0 C__law_signs) := (def_ok F5 s__law_signs K5 rfl rfl rfl rfl c__law_signs).imp (clean p__law_signs)
  have K6 : TOk T6 EV P w K mg base g := K5.snoc (kn := .fn "_law_signs" 0 1) ⟨C__law_signs, rfl, ⟨f5, _, _, PySem.W.mg_of X G at5, kp5, B5, G5⟩⟩
  have G6 : FnOk P w K mg base (L2.CX P w) 1 f6 _ ["_law_text_here"] (spC g 1 C__law_septets) := (def_ok F6 s__law_septets K6 rfl rfl rfl rfl c__law_septets).imp (clean p__law_septets)
  have K7 : TOk T7 EV P w K mg base g := K6.snoc (kn := .fn "_law_septets" 1 1) ⟨C__law_septets, rfl, ⟨f6, _, _, PySem.W.mg_of X G at6, kp6, B6, G6⟩⟩
  have G7 : FnOk P w K mg base (L2.CX P w) 2 f7 _ [] (spC g 0 C__law_table) := (def_ok F7 s__law_table K7 rfl rfl rfl rfl c__law_table).imp (clean p__law_table)
  have K8 : TOk T8 EV P w K mg base g := K7.snoc (kn := .fn "_law_table" 0 2) ⟨C__law_table, rfl, ⟨f7, _, _, PySem.W.mg_of X G at7, kp7, B7, G7⟩⟩
  have G8 : FnOk P w K mg base (L2.CX P w) 1 f8 _ ["_law_cell", "_law_turn"] (spC g 2 C__law_mixed) := (def_ok F8 s__law_mixed K8 rfl rfl rfl rfl c__law_mixed).imp (clean p__law_mixed)
  have K9 : TOk T9 EV P w K mg base g := K8.snoc (kn := .fn "_law_mixed" 2 1) ⟨C__law_mixed, rfl, ⟨f8, _, _, PySem.W.mg_of X G at8, kp8, B8, G8⟩⟩
  have G9 : FnOk P w K mg base (L2.CX P w) 2 f9 _ ["_law_value", "_law_most"] (spC g 2 C__law_text) := (def_ok F9 s__law_text K9 rfl rfl rfl rfl c__law_text).imp (clean p__law_text)
  have K10 : TOk T10 EV P w K mg base g := K9.snoc (kn := .fn "_law_text" 2 2) ⟨C__law_text, rfl, ⟨f9, _, _, PySem.W.mg_of X G at9, kp9, B9, G9⟩⟩
  have G10 : FnOk P w K mg base (L2.CX P w) 3 f10 _ ["_law_text_here"] (spC g 1 C__law_refused) := (def_ok F10 s__law_refused K10 rfl rfl rfl rfl c__law_refused).imp (clean p__law_refused)
  have K11 : TOk T11 EV P w K mg base g := K10.snoc (kn := .fn "_law_refused" 1 3) ⟨C__law_refused, rfl, ⟨f10, _, _, PySem.W.mg_of X G at10, kp10, B10, G10⟩⟩
  have G11 : FnOk P w K mg base (L2.CX P w) 1 f11 _ ["_law_table_here", "_law_row"] (spC g 2 C__law_read) := (def_ok F11 s__law_read K11 rfl rfl rfl rfl c__law_read).imp (clean p__law_read)
  have K12 : TOk T12 EV P w K mg base g := K11.snoc (kn := .fn "_law_read" 2 1) ⟨C__law_read, rfl, ⟨f11, _, _, PySem.W.mg_of X G at11, kp11, B11, G11⟩⟩
  exact (def_ok F12 s_law K12 rfl rfl rfl rfl c_law).imp (law_mo (g := g) p_law)
end Lw
open PySem PySem.W PyProof.Rows
set_option maxRecDepth 100000 in
set_option maxHeartbeats 0 in
theorem PySem.Challenge.cw_mobileair_k26_signs_and_septets_holds : PySem.Challenge.rw_mobileair_k26_signs_and_septets.Holds := by
  w_on; o_law; k_head; (case hw => w_witness2)
  k_fill
  refine Mo.walk_mo (l := PySem.Challenge.rw_mobileair_k26_signs_and_septets) (k := 4) (x := "_law_script") rfl rfl ⟨rfl, by decide, by decide⟩ (fun w h Y => PySem.W.kIn_of Y) ?F
  case F =>
    intro w mg fa h KX G hmg
    refine' Lw.all_mk KX G hmg ?aC0 ?aC1 ?xk0 ?xe0 ?xt0 ?xg0 ?xa0 ?xh0 ?xn0 ?xk1 ?xe1 ?xt1 ?xg1 ?xa1 ?xh1 ?xn1 ?ic0 ?ic1 ?xm0_0 ?xm0_1 ?xm1_0 ?xm1_1 ?at0 ?lk0 ?cd_0 ?kp0 ?at1 ?lk1 ?cd_1 ?kp1 ?at2 ?lk2 ?cd_2 ?kp2 ?at3 ?lk3 ?cd_3 ?kp3 ?at4 ?lk4 ?cd_4 ?kp4 ?at5 ?lk5 ?cd_5 ?kp5 ?at6 ?lk6 ?cd_6 ?kp6 ?at7 ?lk7 ?cd_7 ?kp7 ?at8 ?lk8 ?cd_8 ?kp8 ?at9 ?lk9 ?cd_9 ?kp9 ?at10 ?lk10 ?cd_10 ?kp10 ?at11 ?lk11 ?cd_11 ?kp11 ?at12 ?lk12 ?cd_12 ?kp12 ?gb0 ?gb1 ?tg0 ?tl0 ?ts0 ?tq0_0 ?tq0_1 ?tq0_2 ?tq0_3 ?tq0_4 ?tq0_5 ?tq0_6 ?tq0_7 ?tg1 ?tl1 ?ts1 ?tq1_0 ?tq1_1 ?tq1_2 ?z_enumerate ?z_int ?z_isinstance ?z_len ?z_list ?z_ord ?z_range ?z_str ?z_tuple
    (case aC0 => k_is)
    (case aC1 => k_is)
    (case xk0 => k_is)
    (case xe0 => k_is)
    (case xt0 => k_is)
    (case xg0 => k_is)
    (case xa0 => k_is)
    (case xh0 => k_is)
    (case xn0 => k_exc)
    (case xk1 => k_is)
    (case xe1 => k_is)
    (case xt1 => k_is)
    (case xg1 => k_is)
    (case xa1 => k_is)
    (case xh1 => k_is)
    (case xn1 => k_exc)
    (case ic0 => k_is)
    (case ic1 => k_is)
    (case xm0_0 => first | rfl | k_is)
    (case xm0_1 => first | rfl | k_is)
    (case xm1_0 => first | rfl | k_is)
    (case xm1_1 => first | rfl | k_is)
    (case at0 => k_is)
    (case lk0 => k_is)
    (case cd_0 => k_is)
    (case kp0 => k_is)
    (case at1 => k_is)
    (case lk1 => k_is)
    (case cd_1 => k_is)
    (case kp1 => k_is)
    (case at2 => k_is)
    (case lk2 => k_is)
    (case cd_2 => k_is)
    (case kp2 => k_is)
    (case at3 => k_is)
    (case lk3 => k_is)
    (case cd_3 => k_is)
    (case kp3 => k_is)
    (case at4 => k_is)
    (case lk4 => k_is)
    (case cd_4 => k_is)
    (case kp4 => k_is)
    (case at5 => k_is)
    (case lk5 => k_is)
    (case cd_5 => k_is)
    (case kp5 => k_is)
    (case at6 => k_is)
    (case lk6 => k_is)
    (case cd_6 => k_is)
    (case kp6 => k_is)
    (case at7 => k_is)
    (case lk7 => k_is)
    (case cd_7 => k_is)
    (case kp7 => k_is)
    (case at8 => k_is)
    (case lk8 => k_is)
    (case cd_8 => k_is)
    (case kp8 => k_is)
    (case at9 => k_is)
    (case lk9 => k_is)
    (case cd_9 => k_is)
    (case kp9 => k_is)
    (case at10 => k_is)
    (case lk10 => k_is)
    (case cd_10 => k_is)
    (case kp10 => k_is)
    (case at11 => k_is)
    (case lk11 => k_is)
    (case cd_11 => k_is)
    (case kp11 => k_is)
    (case at12 => k_is)
    (case lk12 => k_is)
    (case cd_12 => k_is)
    (case kp12 => k_is)
    (case gb0 => k_is)
    (case gb1 => k_is)
    (case tg0 => k_is)
    (case tl0 => k_is)
    (case ts0 => first | rfl | decide +kernel | k_is)
    (case tq0_0 => first | rfl | decide +kernel | k_is)
    (case tq0_1 => first | rfl | decide +kernel | k_is)
    (case tq0_2 => first | rfl | decide +kernel | k_is)
    (case tq0_3 => first | rfl | decide +kernel | k_is)
    (case tq0_4 => first | rfl | decide +kernel | k_is)
    (case tq0_5 => first | rfl | decide +kernel | k_is)
    (case tq0_6 => first | rfl | decide +kernel | k_is)
    (case tq0_7 => first | rfl | decide +kernel | k_is)
    (case tg1 => k_is)
    (case tl1 => k_is)
    (case ts1 => first | rfl | decide +kernel | k_is)
    (case tq1_0 => first | rfl | decide +kernel | k_is)
    (case tq1_1 => first | rfl | decide +kernel | k_is)
    (case tq1_2 => first | rfl | decide +kernel | k_is)
    (case z_enumerate => k_is)
    (case z_int => k_is)
    (case z_isinstance => k_is)
    (case z_len => k_is)
    (case z_list => k_is)
    (case z_ord => k_is)
    (case z_range => k_is)
    (case z_str => k_is)
    (case z_tuple => k_is)

