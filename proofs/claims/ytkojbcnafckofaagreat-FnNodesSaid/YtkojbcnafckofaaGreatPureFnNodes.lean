import Derived.Test.YtkojbcnafckofaaGreatPureFnNodesA
import Derived.KernelRfl
namespace Go.Proofs.YtkojbcnafckofaaGreat.Pe.FnNodes
open Go Go.RowKit
set_option linter.unusedVariables false
set_option linter.unusedSimpArgs false
set_option maxHeartbeats 4000000
theorem tellVote_spec (N : Nat) (hN : Big N) (n : Node) (m : Message) (h : Right n) : s_l16TellVote N ⟨n,[]⟩ m = some ⟨(tellVoteN n m).1,(tellVoteN n m).2⟩ := by
 have hvl := votes_len h.votes
 have hnv := votes_len (newVotes_rise n m)
 have ht := h.tot
 have hcl := h.clen
 have hcf := confOk_len h.cof
 unfold s_l16TellVote tellVoteN
 cases hok : m.Ok with
 | false => rfl
 | true =>
  rw [if_neg (show ¬ ((!true) = true) by decide),if_neg (show ¬ (true = false) by decide)]
  by_cases h1 : m.Term = n.Term
  ·rw [if_neg (show ¬ ((m.Term != n.Term) = true) by simpa using h1),if_neg (not_not_intro h1)]
   by_cases h2 : n.Role = 1
   ·rw [if_neg (show ¬ ((n.Role != (1 : Int)) = true) by simpa using h2),if_neg (not_not_intro h2)]
    simp only [joinP]
    rw [tv_ok N hN ⟨n,[]⟩ m (by simp only; omega),bO]
    unfold s_l16Elected_i1
    have htv : totNode (withVotes n (newVotes n m)) ≤ 30000 := by
     have h6 := sum0 (f := fun _ : Int => 0) (fun _ => rfl) (newVotes n m)
     simp only [totNode,totL,withVotes] at ht ⊢
     omega
    have hc := confOf_spec N hN (withVotes n (newVotes n m)) h.log (by omega)
    have hc' : confOf (withVotes n (newVotes n m)) = confOf n := rfl
    rw [hc'] at hc
    have hld := lead_spec N hN (withVotes n (newVotes n m)) h.log (by omega) hcl (by have := h.plen; show n.Peers.length ≤ 1000; omega) h.com h.term
    simp only
    rw [show (Node.mk n.Id n.Term n.Vote n.Role n.Lead n.Conf n.Log n.Commit n.Clock n.Limit (newVotes n m) n.Peers) = withVotes n (newVotes n m) from rfl,hc,bO,most_spec N hN (confOf n) (newVotes n m) (by omega) (by omega),bO,bO]
    by_cases hw : most (confOf n) (newVotes n m) = true
    ·rw [if_pos hw,if_pos hw,hld]
     rfl
    ·rw [if_neg hw,if_neg hw]
   ·rw [if_pos (show (n.Role != (1 : Int)) = true by simpa using h2),if_pos h2]
  ·rw [if_pos (show (m.Term != n.Term) = true by simpa using h1),if_pos h1]
def appFrom (n : Node) (m : Message) : Int × Int × List Entry := if m.Index < n.Log.Start then (n.Log.Start,n.Log.StartTerm,m.Entries.drop (if n.Log.Start - m.Index > m.Entries.length then m.Entries.length else (n.Log.Start - m.Index).toNat)) else (m.Index,m.LogTerm,m.Entries)
def agree (l : Log) (i : Int) : List Entry → Nat → Nat
 | [],k => k
 | e :: es,k => if termAt l (i + 1 + k) = e.Term then agree l i es (k + 1) else k
def refuseMsg (n : Node) (m : Message) (i : Int) : Message := ⟨4,n.Id,m.From,n.Term,i,0,0,false,[],[],⟨#[]⟩,false⟩
def joined (n : Node) (i : Int) (k : Nat) (es : List Entry) : List Entry := n.Log.Entries.take (i + k - n.Log.Start).toNat ++ es.drop k
def backTo (i last : Int) : Int := if (if i - 1 < 0 then 0 else i - 1) > last then last else (if i - 1 < 0 then 0 else i - 1)
def comWith (n : Node) (m : Message) (k : Int) : Int := if (if m.Commit > k then k else m.Commit) > n.Commit then (if m.Commit > k then k else m.Commit) else n.Commit
def appN (n : Node) (m : Message) (k : Int) (l : List Entry) : Node × List Message := (⟨n.Id,n.Term,n.Vote,0,m.From,n.Conf,⟨n.Log.Start,n.Log.StartTerm,l⟩,comWith n m k,0,n.Limit,[],[]⟩,[⟨4,n.Id,m.From,n.Term,k,0,0,true,[],[],⟨#[]⟩,false⟩])
def askAppendN (n : Node) (m : Message) : Node × List Message :=
 if m.Term < n.Term then (n,[refuseMsg n m 0]) else
 if termAt n.Log (appFrom n m).1 ≠ (appFrom n m).2.1 then (follow n m.From,[refuseMsg n m (backTo (appFrom n m).1 (logEnd n.Log))]) else
 if agree n.Log (appFrom n m).1 (appFrom n m).2.2 0 < (appFrom n m).2.2.length then
  (if (appFrom n m).1 + agree n.Log (appFrom n m).1 (appFrom n m).2.2 0 < n.Commit then (follow n m.From,[refuseMsg n m (logEnd n.Log)]) else
   if logOk ⟨n.Log.Start,n.Log.StartTerm,joined n (appFrom n m).1 (agree n.Log (appFrom n m).1 (appFrom n m).2.2 0) (appFrom n m).2.2⟩ = false then (follow n m.From,[refuseMsg n m (logEnd n.Log)]) else
   appN n m ((appFrom n m).1 + (appFrom n m).2.2.length) (joined n (appFrom n m).1 (agree n.Log (appFrom n m).1 (appFrom n m).2.2 0) (appFrom n m).2.2))
 else appN n m ((appFrom n m).1 + (appFrom n m).2.2.length) n.Log.Entries
theorem termAt_out {l : Log} {i : Int} (h : ¬ (l.Start ≤ i ∧ i ≤ l.Start + l.Entries.length)) : termAt l i = -1 := by
 unfold termAt
 rw [if_neg (by omega),decide_eq_false (by omega)]
theorem agree_in {l : Log} {i : Int} : ∀ {es : List Entry} {k : Nat},(∀ e ∈ es,0 ≤ e.Term) → (agree l i es k = k ∨ (l.Start ≤ i + agree l i es k ∧ i + agree l i es k ≤ l.Start + l.Entries.length)) ∧ k ≤ agree l i es k ∧ agree l i es k ≤ k + es.length
 | [],k,_ => ⟨.inl rfl,Nat.le_refl _,Nat.le_refl _⟩
 | e :: es,k,h => by
  rw [agree]
  split
  ·rename_i ht
   obtain ⟨h1,h2,h3⟩ := agree_in (l := l) (i := i) (es := es) (k := k + 1) (fun z hz => h z (List.mem_cons_of_mem _ hz))
   have h0 := h e List.mem_cons_self
   refine ⟨.inr ?_,by omega,by simp only [List.length_cons]; omega⟩
   rcases h1 with h1 | h1
   ·rw [h1]
    have : l.Start ≤ i + 1 + k ∧ i + 1 + k ≤ l.Start + l.Entries.length := by
     by_cases hx : l.Start ≤ i + 1 + k ∧ i + 1 + k ≤ l.Start + l.Entries.length
     ·exact hx
     ·rw [termAt_out hx] at ht
      omega
    omega
   ·exact h1
  ·exact ⟨.inl rfl,Nat.le_refl _,by simp only [List.length_cons]; omega⟩
theorem app_r (N : Nat) (x y : TR) (v : Int × Int × List Entry) (hl : logOk (Log.mk y.n.Log.Start y.n.Log.StartTerm x.n.Log.Entries) = true) (hv : 0 ≤ v.1 ∧ v.1 ≤ 200000) : ∀ (es : List Entry) (k : Nat),k + es.length ≤ 1000 →
  s_l16AskAppend_l1_r N x y v es (k : Int) = some ((agree (Log.mk y.n.Log.Start y.n.Log.StartTerm x.n.Log.Entries) v.1 es k : Nat) : Int)
 | [],k,_ => rfl
 | e :: es,k,h => by
  simp only [List.length_cons] at h
  rw [s_l16AskAppend_l1_r,w64_id (n := v.1 + 1) (by omega) (by omega),w64_id (n := v.1 + 1 + k) (by omega) (by omega),termAt_spec N hl (wi_of (by omega) (by omega)),bO,bO,w64_succ (by omega),app_r N x y v hl hv es (k + 1) (by omega),agree]
  by_cases ht : termAt (Log.mk y.n.Log.Start y.n.Log.StartTerm x.n.Log.Entries) (v.1 + 1 + k) = e.Term
  ·rw [if_pos (by simpa using ht),if_pos ht]
  ·rw [if_neg (by simpa using ht),if_neg ht]
theorem appFrom_ok {n : Node} {m : Message} (h : Right n) (hm : MsgRight m) : (0 ≤ (appFrom n m).1 ∧ (appFrom n m).1 ≤ 100000) ∧ (0 ≤ (appFrom n m).2.1) ∧ (appFrom n m).2.2.length ≤ 4 ∧ ∀ e ∈ (appFrom n m).2.2,e ∈ m.Entries := by
 obtain ⟨a1,a2,a3,a4,a5,a6,a7⟩ := logOk_at h.log
 have h1 := hm.index
 have h2 := hm.logTerm
 have h3 := hm.few
 unfold appFrom
 split
 ·refine ⟨⟨a1,a2⟩,a3,?_,fun e he => List.mem_of_mem_drop he⟩
  simp only [List.length_drop]
  omega
 ·exact ⟨h1,h2.1,h3,fun e he => he⟩
theorem refuse_spec (N : Nat) (n : Node) (m : Message) (i : Int) : s_l16Refuse N ⟨n,[]⟩ m i = some ⟨n,[refuseMsg n m i]⟩ := by
 unfold s_l16Refuse s_l16Tell
 rw [cat_ok (by simp),bO]
 rfl
theorem askAppend_spec (N : Nat) (hN : Big N) (n : Node) (m : Message) (h : Right n) (hm : MsgRight m) : s_l16AskAppend N ⟨n,[]⟩ m = some ⟨(askAppendN n m).1,(askAppendN n m).2⟩ := by
 obtain ⟨a1,a2,a3,a4,a5,a6,a7⟩ := logOk_at h.log
 obtain ⟨f1,f2,f3,f4⟩ := appFrom_ok h hm
 have hix := hm.index
 have hfw := hm.few
 have hcm := hm.commit
 have hkc := h.com
 simp only [logEnd] at hkc
 unfold s_l16AskAppend askAppendN s_l12Last
 simp only [bO]
 rw [w64_id (n := n.Log.Start + n.Log.Entries.length) (by omega) (by omega),show n.Log.Start + (n.Log.Entries.length : Int) = logEnd n.Log from rfl]
 by_cases ht : m.Term < n.Term
 ·rw [if_pos (by simpa using ht),if_pos ht,refuse_spec,bO]
 rw [if_neg (by simpa using ht),if_neg ht]
 unfold s_l16Follow
 simp only [bO,joinP]
 have hrf : ∀ (m' : Message) (i : Int),m'.From = m.From → s_l16Refuse N (TR.mk (Node.mk n.Id n.Term n.Vote (0 : Int) m.From n.Conf (Log.mk n.Log.Start n.Log.StartTerm n.Log.Entries) n.Commit (0 : Int) n.Limit [] []) []) m' i = some ⟨follow n m.From,[refuseMsg n m i]⟩ := by
  intro m' i hf
  rw [refuse_spec]
  unfold refuseMsg
  rw [hf]
  rfl
 by_cases hi : m.Index < n.Log.Start
 ·rw [if_pos (show decide (m.Index < n.Log.Start) = true from decide_eq_true hi),w64_id (n := n.Log.Start - m.Index) (by omega) (by omega)]
  by_cases hd : n.Log.Start - m.Index > m.Entries.length
  ·have hv : appFrom n m = (n.Log.Start,n.Log.StartTerm,m.Entries.drop m.Entries.length) := by
    unfold appFrom
    rw [if_pos hi,if_pos hd]
   rw [if_pos (show decide (n.Log.Start - m.Index > ((m.Entries.length : Nat) : Int)) = true from decide_eq_true hd),drop_ok (Nat.le_refl _),bO]
   rw [hv] at f1 f2 f3 f4
   rw [hv]
   simp only at f1 f2 f3 f4 ⊢
   have hterm : ∀ e ∈ (m.Entries.drop m.Entries.length),0 ≤ e.Term := fun e he => (entOk_term (msgTerms_mem hm.terms e (f4 e he)).1).1
   rw [termAt_spec N h.log (i := n.Log.Start) (wi_of (by omega) (by omega)),bO]
   by_cases he : termAt n.Log n.Log.Start = n.Log.StartTerm
   ·rw [if_neg (show ¬ ((termAt n.Log n.Log.Start != n.Log.StartTerm) = true) by simpa using he),if_neg (not_not_intro he)]
    have hlp : s_l16AskAppend_l1 N ⟨n,[]⟩ (TR.mk (Node.mk n.Id n.Term n.Vote (0 : Int) m.From n.Conf n.Log n.Commit n.Clock n.Limit [] []) []) (n.Log.Start,n.Log.StartTerm,(m.Entries.drop m.Entries.length)) N (0 : Int) = some ((agree n.Log n.Log.Start ((m.Entries.drop m.Entries.length)) 0 : Nat) : Int) := by
     rw [s_l16AskAppend_l1_eq _ _ _ (by simp only; omega) (by simp only; have := hN; unfold Big at this; omega),show (0 : Int) = ((0 : Nat) : Int) from rfl]
     exact app_r N ⟨n,[]⟩ (TR.mk (Node.mk n.Id n.Term n.Vote (0 : Int) m.From n.Conf n.Log n.Commit n.Clock n.Limit [] []) []) (n.Log.Start,n.Log.StartTerm,(m.Entries.drop m.Entries.length)) h.log (by simp only; omega) ((m.Entries.drop m.Entries.length)) 0 (by omega)
    rw [hlp,bO]
    obtain ⟨g1,g2,g3⟩ := agree_in (l := n.Log) (i := n.Log.Start) (es := (m.Entries.drop m.Entries.length)) (k := 0) hterm
    have hin : n.Log.Start ≤ n.Log.Start ∧ n.Log.Start ≤ n.Log.Start + n.Log.Entries.length := by
     by_cases hx : n.Log.Start ≤ n.Log.Start ∧ n.Log.Start ≤ n.Log.Start + n.Log.Entries.length
     ·exact hx
     ·have := termAt_out hx
      omega
    generalize agree n.Log n.Log.Start ((m.Entries.drop m.Entries.length)) 0 = k at g1 g2 g3 ⊢
    have hin2 : n.Log.Start ≤ n.Log.Start + k ∧ n.Log.Start + k ≤ n.Log.Start + n.Log.Entries.length := by
     rcases g1 with g1 | g1
     ·rw [g1]
      omega
     ·exact g1
    by_cases hlt : k < ((m.Entries.drop m.Entries.length)).length
    ·rw [if_pos (show decide ((k : Int) < ((((m.Entries.drop m.Entries.length)).length : Nat) : Int)) = true from decide_eq_true (by omega)),if_pos hlt]
     rw [w64_id (n := n.Log.Start + (k : Int)) (by omega) (by omega),w64_id (n := n.Log.Start + (k : Int) - n.Log.Start) (by omega) (by omega)]
     have hq : n.Log.Start + (k : Int) - n.Log.Start = (((n.Log.Start + (k : Int) - n.Log.Start).toNat : Nat) : Int) := by omega
     have htk : take? n.Log.Entries (n.Log.Start + (k : Int) - n.Log.Start) = some (n.Log.Entries.take (n.Log.Start + (k : Int) - n.Log.Start).toNat) := by
      rw [hq,take_ok (by omega),Int.toNat_natCast]
     have hjl : (joined n n.Log.Start k ((m.Entries.drop m.Entries.length))).length ≤ 200 := by
      unfold joined
      simp only [List.length_append,List.length_take,List.length_drop]
      omega
     rw [htk,bO,cat_ok (by simp only [List.length_nil,List.length_take]; omega),bO,drop_ok (by omega),bO,cat_ok (by simp only [List.nil_append,List.length_take,List.length_drop]; omega),bO,List.nil_append,show n.Log.Entries.take (n.Log.Start + (k : Int) - n.Log.Start).toNat ++ ((m.Entries.drop m.Entries.length)).drop k = joined n n.Log.Start k ((m.Entries.drop m.Entries.length)) from rfl]
     by_cases hc : n.Log.Start + (k : Int) < n.Commit
     ·rw [if_pos (show decide (n.Log.Start + (k : Int) < n.Commit) = true from decide_eq_true hc),if_pos hc,hrf (Message.mk m.Kind m.From m.To m.Term n.Log.Start n.Log.StartTerm m.Commit m.Ok (m.Entries.drop m.Entries.length) m.Conf m.Data m.Last) _ rfl]
      rfl
     ·rw [if_neg (show ¬ (decide (n.Log.Start + (k : Int) < n.Commit) = true) by simpa using hc),if_neg hc]
      have htl : totLog ⟨n.Log.Start,n.Log.StartTerm,joined n n.Log.Start k ((m.Entries.drop m.Entries.length))⟩ ≤ 1099511627 := by
       have h4 := sum_le (f := totEntry) (B := 120) (xs := joined n n.Log.Start k ((m.Entries.drop m.Entries.length))) (fun e he => by
        unfold joined at he
        rcases List.mem_append.1 he with he | he
        ·exact ent_small (termsOk_mem a7 e (List.mem_of_mem_take he))
        ·exact ent_small (msgTerms_mem hm.terms e (f4 e (List.mem_of_mem_drop he))).1)
       simp only [totLog,totL]
       omega
      rw [logOk_spec N hN _ htl,bO]
      cases hj : logOk ⟨n.Log.Start,n.Log.StartTerm,joined n n.Log.Start k ((m.Entries.drop m.Entries.length))⟩ with
      | false =>
       rw [if_pos (show (!false) = true from rfl),if_pos rfl,hrf (Message.mk m.Kind m.From m.To m.Term n.Log.Start n.Log.StartTerm m.Commit m.Ok (m.Entries.drop m.Entries.length) m.Conf m.Data m.Last) _ rfl]
       rfl
      | true =>
       rw [if_neg (show ¬ ((!true) = true) by decide),if_neg (show ¬ (true = false) by decide)]
       unfold appN comWith s_l16Tell
       rw [w64_id (n := n.Log.Start + (((m.Entries.drop m.Entries.length)).length : Int)) (by omega) (by omega)]
       by_cases c1 : m.Commit > n.Log.Start + (((m.Entries.drop m.Entries.length)).length : Int)
       ·rw [if_pos (show decide (m.Commit > n.Log.Start + (((m.Entries.drop m.Entries.length)).length : Int)) = true from decide_eq_true c1)]
        simp only [if_pos c1]
        by_cases c2 : n.Log.Start + (((m.Entries.drop m.Entries.length)).length : Int) > n.Commit
        ·rw [if_pos (show decide (n.Log.Start + (((m.Entries.drop m.Entries.length)).length : Int) > n.Commit) = true from decide_eq_true c2),if_pos c2,cat_ok (by simp),bO,bO]
         rfl
        ·rw [if_neg (show ¬ (decide (n.Log.Start + (((m.Entries.drop m.Entries.length)).length : Int) > n.Commit) = true) by simpa using c2),if_neg c2,cat_ok (by simp),bO,bO]
         rfl
       ·rw [if_neg (show ¬ (decide (m.Commit > n.Log.Start + (((m.Entries.drop m.Entries.length)).length : Int)) = true) by simpa using c1)]
        simp only [if_neg c1]
        by_cases c2 : m.Commit > n.Commit
        ·rw [if_pos (show decide (m.Commit > n.Commit) = true from decide_eq_true c2),if_pos c2,cat_ok (by simp),bO,bO]
         rfl
        ·rw [if_neg (show ¬ (decide (m.Commit > n.Commit) = true) by simpa using c2),if_neg c2,cat_ok (by simp),bO,bO]
         rfl
    ·rw [if_neg (show ¬ (decide ((k : Int) < ((((m.Entries.drop m.Entries.length)).length : Nat) : Int)) = true) by rw [decide_eq_true_eq]; omega),if_neg hlt]
     unfold appN comWith s_l16Tell
     rw [w64_id (n := n.Log.Start + (((m.Entries.drop m.Entries.length)).length : Int)) (by omega) (by omega)]
     by_cases c1 : m.Commit > n.Log.Start + (((m.Entries.drop m.Entries.length)).length : Int)
     ·rw [if_pos (show decide (m.Commit > n.Log.Start + (((m.Entries.drop m.Entries.length)).length : Int)) = true from decide_eq_true c1)]
      simp only [if_pos c1]
      by_cases c2 : n.Log.Start + (((m.Entries.drop m.Entries.length)).length : Int) > n.Commit
      ·rw [if_pos (show decide (n.Log.Start + (((m.Entries.drop m.Entries.length)).length : Int) > n.Commit) = true from decide_eq_true c2),if_pos c2,cat_ok (by simp),bO,bO]
       rfl
      ·rw [if_neg (show ¬ (decide (n.Log.Start + (((m.Entries.drop m.Entries.length)).length : Int) > n.Commit) = true) by simpa using c2),if_neg c2,cat_ok (by simp),bO,bO]
       rfl
     ·rw [if_neg (show ¬ (decide (m.Commit > n.Log.Start + (((m.Entries.drop m.Entries.length)).length : Int)) = true) by simpa using c1)]
      simp only [if_neg c1]
      by_cases c2 : m.Commit > n.Commit
      ·rw [if_pos (show decide (m.Commit > n.Commit) = true from decide_eq_true c2),if_pos c2,cat_ok (by simp),bO,bO]
       rfl
      ·rw [if_neg (show ¬ (decide (m.Commit > n.Commit) = true) by simpa using c2),if_neg c2,cat_ok (by simp),bO,bO]
       rfl
   ·rw [if_pos (show (termAt n.Log n.Log.Start != n.Log.StartTerm) = true by simpa using he),if_pos he,w64_id (n := n.Log.Start - 1) (by omega) (by omega)]
    unfold backTo
    by_cases hb : n.Log.Start - 1 < 0
    ·rw [if_pos (show decide (n.Log.Start - 1 < 0) = true from decide_eq_true hb)]
     simp only [if_pos hb]
     by_cases hg : (0 : Int) > logEnd n.Log
     ·rw [if_pos (show decide ((0 : Int) > logEnd n.Log) = true from decide_eq_true hg),if_pos hg,hrf (Message.mk m.Kind m.From m.To m.Term n.Log.Start n.Log.StartTerm m.Commit m.Ok (m.Entries.drop m.Entries.length) m.Conf m.Data m.Last) _ rfl]
      rfl
     ·rw [if_neg (show ¬ (decide ((0 : Int) > logEnd n.Log) = true) by simpa using hg),if_neg hg,hrf (Message.mk m.Kind m.From m.To m.Term n.Log.Start n.Log.StartTerm m.Commit m.Ok (m.Entries.drop m.Entries.length) m.Conf m.Data m.Last) _ rfl]
      rfl
    ·rw [if_neg (show ¬ (decide (n.Log.Start - 1 < 0) = true) by simpa using hb)]
     simp only [if_neg hb]
     by_cases hg : n.Log.Start - 1 > logEnd n.Log
     ·rw [if_pos (show decide (n.Log.Start - 1 > logEnd n.Log) = true from decide_eq_true hg),if_pos hg,hrf (Message.mk m.Kind m.From m.To m.Term n.Log.Start n.Log.StartTerm m.Commit m.Ok (m.Entries.drop m.Entries.length) m.Conf m.Data m.Last) _ rfl]
      rfl
     ·rw [if_neg (show ¬ (decide (n.Log.Start - 1 > logEnd n.Log) = true) by simpa using hg),if_neg hg,hrf (Message.mk m.Kind m.From m.To m.Term n.Log.Start n.Log.StartTerm m.Commit m.Ok (m.Entries.drop m.Entries.length) m.Conf m.Data m.Last) _ rfl]
      rfl
  ·have hv : appFrom n m = (n.Log.Start,n.Log.StartTerm,m.Entries.drop (n.Log.Start - m.Index).toNat) := by
    unfold appFrom
    rw [if_pos hi,if_neg hd]
   have hdr : drop? m.Entries (n.Log.Start - m.Index) = some (m.Entries.drop (n.Log.Start - m.Index).toNat) := by
    rw [show n.Log.Start - m.Index = (((n.Log.Start - m.Index).toNat : Nat) : Int) by omega,drop_ok (by omega),Int.toNat_natCast]
   rw [if_neg (show ¬ (decide (n.Log.Start - m.Index > ((m.Entries.length : Nat) : Int)) = true) by simpa using hd),hdr,bO]
   rw [hv] at f1 f2 f3 f4
   rw [hv]
   simp only at f1 f2 f3 f4 ⊢
   have hterm : ∀ e ∈ (m.Entries.drop (n.Log.Start - m.Index).toNat),0 ≤ e.Term := fun e he => (entOk_term (msgTerms_mem hm.terms e (f4 e he)).1).1
   rw [termAt_spec N h.log (i := n.Log.Start) (wi_of (by omega) (by omega)),bO]
   by_cases he : termAt n.Log n.Log.Start = n.Log.StartTerm
   ·rw [if_neg (show ¬ ((termAt n.Log n.Log.Start != n.Log.StartTerm) = true) by simpa using he),if_neg (not_not_intro he)]
    have hlp : s_l16AskAppend_l1 N ⟨n,[]⟩ (TR.mk (Node.mk n.Id n.Term n.Vote (0 : Int) m.From n.Conf n.Log n.Commit n.Clock n.Limit [] []) []) (n.Log.Start,n.Log.StartTerm,(m.Entries.drop (n.Log.Start - m.Index).toNat)) N (0 : Int) = some ((agree n.Log n.Log.Start ((m.Entries.drop (n.Log.Start - m.Index).toNat)) 0 : Nat) : Int) := by
     rw [s_l16AskAppend_l1_eq _ _ _ (by simp only; omega) (by simp only; have := hN; unfold Big at this; omega),show (0 : Int) = ((0 : Nat) : Int) from rfl]
     exact app_r N ⟨n,[]⟩ (TR.mk (Node.mk n.Id n.Term n.Vote (0 : Int) m.From n.Conf n.Log n.Commit n.Clock n.Limit [] []) []) (n.Log.Start,n.Log.StartTerm,(m.Entries.drop (n.Log.Start - m.Index).toNat)) h.log (by simp only; omega) ((m.Entries.drop (n.Log.Start - m.Index).toNat)) 0 (by omega)
    rw [hlp,bO]
    obtain ⟨g1,g2,g3⟩ := agree_in (l := n.Log) (i := n.Log.Start) (es := (m.Entries.drop (n.Log.Start - m.Index).toNat)) (k := 0) hterm
    have hin : n.Log.Start ≤ n.Log.Start ∧ n.Log.Start ≤ n.Log.Start + n.Log.Entries.length := by
     by_cases hx : n.Log.Start ≤ n.Log.Start ∧ n.Log.Start ≤ n.Log.Start + n.Log.Entries.length
     ·exact hx
     ·have := termAt_out hx
      omega
    generalize agree n.Log n.Log.Start ((m.Entries.drop (n.Log.Start - m.Index).toNat)) 0 = k at g1 g2 g3 ⊢
    have hin2 : n.Log.Start ≤ n.Log.Start + k ∧ n.Log.Start + k ≤ n.Log.Start + n.Log.Entries.length := by
     rcases g1 with g1 | g1
     ·rw [g1]
      omega
     ·exact g1
    by_cases hlt : k < ((m.Entries.drop (n.Log.Start - m.Index).toNat)).length
    ·rw [if_pos (show decide ((k : Int) < ((((m.Entries.drop (n.Log.Start - m.Index).toNat)).length : Nat) : Int)) = true from decide_eq_true (by omega)),if_pos hlt]
     rw [w64_id (n := n.Log.Start + (k : Int)) (by omega) (by omega),w64_id (n := n.Log.Start + (k : Int) - n.Log.Start) (by omega) (by omega)]
     have hq : n.Log.Start + (k : Int) - n.Log.Start = (((n.Log.Start + (k : Int) - n.Log.Start).toNat : Nat) : Int) := by omega
     have htk : take? n.Log.Entries (n.Log.Start + (k : Int) - n.Log.Start) = some (n.Log.Entries.take (n.Log.Start + (k : Int) - n.Log.Start).toNat) := by
      rw [hq,take_ok (by omega),Int.toNat_natCast]
     have hjl : (joined n n.Log.Start k ((m.Entries.drop (n.Log.Start - m.Index).toNat))).length ≤ 200 := by
      unfold joined
      simp only [List.length_append,List.length_take,List.length_drop]
      omega
     rw [htk,bO,cat_ok (by simp only [List.length_nil,List.length_take]; omega),bO,drop_ok (by omega),bO,cat_ok (by simp only [List.nil_append,List.length_take,List.length_drop]; omega),bO,List.nil_append,show n.Log.Entries.take (n.Log.Start + (k : Int) - n.Log.Start).toNat ++ ((m.Entries.drop (n.Log.Start - m.Index).toNat)).drop k = joined n n.Log.Start k ((m.Entries.drop (n.Log.Start - m.Index).toNat)) from rfl]
     by_cases hc : n.Log.Start + (k : Int) < n.Commit
     ·rw [if_pos (show decide (n.Log.Start + (k : Int) < n.Commit) = true from decide_eq_true hc),if_pos hc,hrf (Message.mk m.Kind m.From m.To m.Term n.Log.Start n.Log.StartTerm m.Commit m.Ok (m.Entries.drop (n.Log.Start - m.Index).toNat) m.Conf m.Data m.Last) _ rfl]
      rfl
     ·rw [if_neg (show ¬ (decide (n.Log.Start + (k : Int) < n.Commit) = true) by simpa using hc),if_neg hc]
      have htl : totLog ⟨n.Log.Start,n.Log.StartTerm,joined n n.Log.Start k ((m.Entries.drop (n.Log.Start - m.Index).toNat))⟩ ≤ 1099511627 := by
       have h4 := sum_le (f := totEntry) (B := 120) (xs := joined n n.Log.Start k ((m.Entries.drop (n.Log.Start - m.Index).toNat))) (fun e he => by
        unfold joined at he
        rcases List.mem_append.1 he with he | he
        ·exact ent_small (termsOk_mem a7 e (List.mem_of_mem_take he))
        ·exact ent_small (msgTerms_mem hm.terms e (f4 e (List.mem_of_mem_drop he))).1)
       simp only [totLog,totL]
       omega
      rw [logOk_spec N hN _ htl,bO]
      cases hj : logOk ⟨n.Log.Start,n.Log.StartTerm,joined n n.Log.Start k ((m.Entries.drop (n.Log.Start - m.Index).toNat))⟩ with
      | false =>
       rw [if_pos (show (!false) = true from rfl),if_pos rfl,hrf (Message.mk m.Kind m.From m.To m.Term n.Log.Start n.Log.StartTerm m.Commit m.Ok (m.Entries.drop (n.Log.Start - m.Index).toNat) m.Conf m.Data m.Last) _ rfl]
       rfl
      | true =>
       rw [if_neg (show ¬ ((!true) = true) by decide),if_neg (show ¬ (true = false) by decide)]
       unfold appN comWith s_l16Tell
       rw [w64_id (n := n.Log.Start + (((m.Entries.drop (n.Log.Start - m.Index).toNat)).length : Int)) (by omega) (by omega)]
       by_cases c1 : m.Commit > n.Log.Start + (((m.Entries.drop (n.Log.Start - m.Index).toNat)).length : Int)
       ·rw [if_pos (show decide (m.Commit > n.Log.Start + (((m.Entries.drop (n.Log.Start - m.Index).toNat)).length : Int)) = true from decide_eq_true c1)]
        simp only [if_pos c1]
        by_cases c2 : n.Log.Start + (((m.Entries.drop (n.Log.Start - m.Index).toNat)).length : Int) > n.Commit
        ·rw [if_pos (show decide (n.Log.Start + (((m.Entries.drop (n.Log.Start - m.Index).toNat)).length : Int) > n.Commit) = true from decide_eq_true c2),if_pos c2,cat_ok (by simp),bO,bO]
         rfl
        ·rw [if_neg (show ¬ (decide (n.Log.Start + (((m.Entries.drop (n.Log.Start - m.Index).toNat)).length : Int) > n.Commit) = true) by simpa using c2),if_neg c2,cat_ok (by simp),bO,bO]
         rfl
       ·rw [if_neg (show ¬ (decide (m.Commit > n.Log.Start + (((m.Entries.drop (n.Log.Start - m.Index).toNat)).length : Int)) = true) by simpa using c1)]
        simp only [if_neg c1]
        by_cases c2 : m.Commit > n.Commit
        ·rw [if_pos (show decide (m.Commit > n.Commit) = true from decide_eq_true c2),if_pos c2,cat_ok (by simp),bO,bO]
         rfl
        ·rw [if_neg (show ¬ (decide (m.Commit > n.Commit) = true) by simpa using c2),if_neg c2,cat_ok (by simp),bO,bO]
         rfl
    ·rw [if_neg (show ¬ (decide ((k : Int) < ((((m.Entries.drop (n.Log.Start - m.Index).toNat)).length : Nat) : Int)) = true) by rw [decide_eq_true_eq]; omega),if_neg hlt]
     unfold appN comWith s_l16Tell
     rw [w64_id (n := n.Log.Start + (((m.Entries.drop (n.Log.Start - m.Index).toNat)).length : Int)) (by omega) (by omega)]
     by_cases c1 : m.Commit > n.Log.Start + (((m.Entries.drop (n.Log.Start - m.Index).toNat)).length : Int)
     ·rw [if_pos (show decide (m.Commit > n.Log.Start + (((m.Entries.drop (n.Log.Start - m.Index).toNat)).length : Int)) = true from decide_eq_true c1)]
      simp only [if_pos c1]
      by_cases c2 : n.Log.Start + (((m.Entries.drop (n.Log.Start - m.Index).toNat)).length : Int) > n.Commit
      ·rw [if_pos (show decide (n.Log.Start + (((m.Entries.drop (n.Log.Start - m.Index).toNat)).length : Int) > n.Commit) = true from decide_eq_true c2),if_pos c2,cat_ok (by simp),bO,bO]
       rfl
      ·rw [if_neg (show ¬ (decide (n.Log.Start + (((m.Entries.drop (n.Log.Start - m.Index).toNat)).length : Int) > n.Commit) = true) by simpa using c2),if_neg c2,cat_ok (by simp),bO,bO]
       rfl
     ·rw [if_neg (show ¬ (decide (m.Commit > n.Log.Start + (((m.Entries.drop (n.Log.Start - m.Index).toNat)).length : Int)) = true) by simpa using c1)]
      simp only [if_neg c1]
      by_cases c2 : m.Commit > n.Commit
      ·rw [if_pos (show decide (m.Commit > n.Commit) = true from decide_eq_true c2),if_pos c2,cat_ok (by simp),bO,bO]
       rfl
      ·rw [if_neg (show ¬ (decide (m.Commit > n.Commit) = true) by simpa using c2),if_neg c2,cat_ok (by simp),bO,bO]
       rfl
   ·rw [if_pos (show (termAt n.Log n.Log.Start != n.Log.StartTerm) = true by simpa using he),if_pos he,w64_id (n := n.Log.Start - 1) (by omega) (by omega)]
    unfold backTo
    by_cases hb : n.Log.Start - 1 < 0
    ·rw [if_pos (show decide (n.Log.Start - 1 < 0) = true from decide_eq_true hb)]
     simp only [if_pos hb]
     by_cases hg : (0 : Int) > logEnd n.Log
     ·rw [if_pos (show decide ((0 : Int) > logEnd n.Log) = true from decide_eq_true hg),if_pos hg,hrf (Message.mk m.Kind m.From m.To m.Term n.Log.Start n.Log.StartTerm m.Commit m.Ok (m.Entries.drop (n.Log.Start - m.Index).toNat) m.Conf m.Data m.Last) _ rfl]
      rfl
     ·rw [if_neg (show ¬ (decide ((0 : Int) > logEnd n.Log) = true) by simpa using hg),if_neg hg,hrf (Message.mk m.Kind m.From m.To m.Term n.Log.Start n.Log.StartTerm m.Commit m.Ok (m.Entries.drop (n.Log.Start - m.Index).toNat) m.Conf m.Data m.Last) _ rfl]
      rfl
    ·rw [if_neg (show ¬ (decide (n.Log.Start - 1 < 0) = true) by simpa using hb)]
     simp only [if_neg hb]
     by_cases hg : n.Log.Start - 1 > logEnd n.Log
     ·rw [if_pos (show decide (n.Log.Start - 1 > logEnd n.Log) = true from decide_eq_true hg),if_pos hg,hrf (Message.mk m.Kind m.From m.To m.Term n.Log.Start n.Log.StartTerm m.Commit m.Ok (m.Entries.drop (n.Log.Start - m.Index).toNat) m.Conf m.Data m.Last) _ rfl]
      rfl
     ·rw [if_neg (show ¬ (decide (n.Log.Start - 1 > logEnd n.Log) = true) by simpa using hg),if_neg hg,hrf (Message.mk m.Kind m.From m.To m.Term n.Log.Start n.Log.StartTerm m.Commit m.Ok (m.Entries.drop (n.Log.Start - m.Index).toNat) m.Conf m.Data m.Last) _ rfl]
      rfl
 ·have hv : appFrom n m = (m.Index,m.LogTerm,m.Entries) := by
   unfold appFrom
   rw [if_neg hi]
  rw [if_neg (show ¬ (decide (m.Index < n.Log.Start) = true) by simpa using hi)]
  rw [hv] at f1 f2 f3 f4
  rw [hv]
  simp only at f1 f2 f3 f4 ⊢
  have hterm : ∀ e ∈ m.Entries,0 ≤ e.Term := fun e he => (entOk_term (msgTerms_mem hm.terms e (f4 e he)).1).1
  rw [termAt_spec N h.log (i := m.Index) (wi_of (by omega) (by omega)),bO]
  by_cases he : termAt n.Log m.Index = m.LogTerm
  ·rw [if_neg (show ¬ ((termAt n.Log m.Index != m.LogTerm) = true) by simpa using he),if_neg (not_not_intro he)]
   have hlp : s_l16AskAppend_l1 N ⟨n,[]⟩ (TR.mk (Node.mk n.Id n.Term n.Vote (0 : Int) m.From n.Conf n.Log n.Commit n.Clock n.Limit [] []) []) (m.Index,m.LogTerm,m.Entries) N (0 : Int) = some ((agree n.Log m.Index (m.Entries) 0 : Nat) : Int) := by
    rw [s_l16AskAppend_l1_eq _ _ _ (by simp only; omega) (by simp only; have := hN; unfold Big at this; omega),show (0 : Int) = ((0 : Nat) : Int) from rfl]
    exact app_r N ⟨n,[]⟩ (TR.mk (Node.mk n.Id n.Term n.Vote (0 : Int) m.From n.Conf n.Log n.Commit n.Clock n.Limit [] []) []) (m.Index,m.LogTerm,m.Entries) h.log (by simp only; omega) (m.Entries) 0 (by omega)
   rw [hlp,bO]
   obtain ⟨g1,g2,g3⟩ := agree_in (l := n.Log) (i := m.Index) (es := m.Entries) (k := 0) hterm
   have hin : n.Log.Start ≤ m.Index ∧ m.Index ≤ n.Log.Start + n.Log.Entries.length := by
    by_cases hx : n.Log.Start ≤ m.Index ∧ m.Index ≤ n.Log.Start + n.Log.Entries.length
    ·exact hx
    ·have := termAt_out hx
     omega
   generalize agree n.Log m.Index (m.Entries) 0 = k at g1 g2 g3 ⊢
   have hin2 : n.Log.Start ≤ m.Index + k ∧ m.Index + k ≤ n.Log.Start + n.Log.Entries.length := by
    rcases g1 with g1 | g1
    ·rw [g1]
     omega
    ·exact g1
   by_cases hlt : k < (m.Entries).length
   ·rw [if_pos (show decide ((k : Int) < (((m.Entries).length : Nat) : Int)) = true from decide_eq_true (by omega)),if_pos hlt]
    rw [w64_id (n := m.Index + (k : Int)) (by omega) (by omega),w64_id (n := m.Index + (k : Int) - n.Log.Start) (by omega) (by omega)]
    have hq : m.Index + (k : Int) - n.Log.Start = (((m.Index + (k : Int) - n.Log.Start).toNat : Nat) : Int) := by omega
    have htk : take? n.Log.Entries (m.Index + (k : Int) - n.Log.Start) = some (n.Log.Entries.take (m.Index + (k : Int) - n.Log.Start).toNat) := by
     rw [hq,take_ok (by omega),Int.toNat_natCast]
    have hjl : (joined n m.Index k (m.Entries)).length ≤ 200 := by
     unfold joined
     simp only [List.length_append,List.length_take,List.length_drop]
     omega
    rw [htk,bO,cat_ok (by simp only [List.length_nil,List.length_take]; omega),bO,drop_ok (by omega),bO,cat_ok (by simp only [List.nil_append,List.length_take,List.length_drop]; omega),bO,List.nil_append,show n.Log.Entries.take (m.Index + (k : Int) - n.Log.Start).toNat ++ (m.Entries).drop k = joined n m.Index k (m.Entries) from rfl]
    by_cases hc : m.Index + (k : Int) < n.Commit
    ·rw [if_pos (show decide (m.Index + (k : Int) < n.Commit) = true from decide_eq_true hc),if_pos hc,hrf (Message.mk m.Kind m.From m.To m.Term m.Index m.LogTerm m.Commit m.Ok m.Entries m.Conf m.Data m.Last) _ rfl]
     rfl
    ·rw [if_neg (show ¬ (decide (m.Index + (k : Int) < n.Commit) = true) by simpa using hc),if_neg hc]
     have htl : totLog ⟨n.Log.Start,n.Log.StartTerm,joined n m.Index k (m.Entries)⟩ ≤ 1099511627 := by
      have h4 := sum_le (f := totEntry) (B := 120) (xs := joined n m.Index k (m.Entries)) (fun e he => by
       unfold joined at he
       rcases List.mem_append.1 he with he | he
       ·exact ent_small (termsOk_mem a7 e (List.mem_of_mem_take he))
       ·exact ent_small (msgTerms_mem hm.terms e (f4 e (List.mem_of_mem_drop he))).1)
      simp only [totLog,totL]
      omega
     rw [logOk_spec N hN _ htl,bO]
     cases hj : logOk ⟨n.Log.Start,n.Log.StartTerm,joined n m.Index k (m.Entries)⟩ with
     | false =>
      rw [if_pos (show (!false) = true from rfl),if_pos rfl,hrf (Message.mk m.Kind m.From m.To m.Term m.Index m.LogTerm m.Commit m.Ok m.Entries m.Conf m.Data m.Last) _ rfl]
      rfl
     | true =>
      rw [if_neg (show ¬ ((!true) = true) by decide),if_neg (show ¬ (true = false) by decide)]
      unfold appN comWith s_l16Tell
      rw [w64_id (n := m.Index + ((m.Entries).length : Int)) (by omega) (by omega)]
      by_cases c1 : m.Commit > m.Index + ((m.Entries).length : Int)
      ·rw [if_pos (show decide (m.Commit > m.Index + ((m.Entries).length : Int)) = true from decide_eq_true c1)]
       simp only [if_pos c1]
       by_cases c2 : m.Index + ((m.Entries).length : Int) > n.Commit
       ·rw [if_pos (show decide (m.Index + ((m.Entries).length : Int) > n.Commit) = true from decide_eq_true c2),if_pos c2,cat_ok (by simp),bO,bO]
        rfl
       ·rw [if_neg (show ¬ (decide (m.Index + ((m.Entries).length : Int) > n.Commit) = true) by simpa using c2),if_neg c2,cat_ok (by simp),bO,bO]
        rfl
      ·rw [if_neg (show ¬ (decide (m.Commit > m.Index + ((m.Entries).length : Int)) = true) by simpa using c1)]
       simp only [if_neg c1]
       by_cases c2 : m.Commit > n.Commit
       ·rw [if_pos (show decide (m.Commit > n.Commit) = true from decide_eq_true c2),if_pos c2,cat_ok (by simp),bO,bO]
        rfl
       ·rw [if_neg (show ¬ (decide (m.Commit > n.Commit) = true) by simpa using c2),if_neg c2,cat_ok (by simp),bO,bO]
        rfl
   ·rw [if_neg (show ¬ (decide ((k : Int) < (((m.Entries).length : Nat) : Int)) = true) by rw [decide_eq_true_eq]; omega),if_neg hlt]
    unfold appN comWith s_l16Tell
    rw [w64_id (n := m.Index + ((m.Entries).length : Int)) (by omega) (by omega)]
    by_cases c1 : m.Commit > m.Index + ((m.Entries).length : Int)
    ·rw [if_pos (show decide (m.Commit > m.Index + ((m.Entries).length : Int)) = true from decide_eq_true c1)]
     simp only [if_pos c1]
     by_cases c2 : m.Index + ((m.Entries).length : Int) > n.Commit
     ·rw [if_pos (show decide (m.Index + ((m.Entries).length : Int) > n.Commit) = true from decide_eq_true c2),if_pos c2,cat_ok (by simp),bO,bO]
      rfl
     ·rw [if_neg (show ¬ (decide (m.Index + ((m.Entries).length : Int) > n.Commit) = true) by simpa using c2),if_neg c2,cat_ok (by simp),bO,bO]
      rfl
    ·rw [if_neg (show ¬ (decide (m.Commit > m.Index + ((m.Entries).length : Int)) = true) by simpa using c1)]
     simp only [if_neg c1]
     by_cases c2 : m.Commit > n.Commit
     ·rw [if_pos (show decide (m.Commit > n.Commit) = true from decide_eq_true c2),if_pos c2,cat_ok (by simp),bO,bO]
      rfl
     ·rw [if_neg (show ¬ (decide (m.Commit > n.Commit) = true) by simpa using c2),if_neg c2,cat_ok (by simp),bO,bO]
      rfl
  ·rw [if_pos (show (termAt n.Log m.Index != m.LogTerm) = true by simpa using he),if_pos he,w64_id (n := m.Index - 1) (by omega) (by omega)]
   unfold backTo
   by_cases hb : m.Index - 1 < 0
   ·rw [if_pos (show decide (m.Index - 1 < 0) = true from decide_eq_true hb)]
    simp only [if_pos hb]
    by_cases hg : (0 : Int) > logEnd n.Log
    ·rw [if_pos (show decide ((0 : Int) > logEnd n.Log) = true from decide_eq_true hg),if_pos hg,hrf (Message.mk m.Kind m.From m.To m.Term m.Index m.LogTerm m.Commit m.Ok m.Entries m.Conf m.Data m.Last) _ rfl]
     rfl
    ·rw [if_neg (show ¬ (decide ((0 : Int) > logEnd n.Log) = true) by simpa using hg),if_neg hg,hrf (Message.mk m.Kind m.From m.To m.Term m.Index m.LogTerm m.Commit m.Ok m.Entries m.Conf m.Data m.Last) _ rfl]
     rfl
   ·rw [if_neg (show ¬ (decide (m.Index - 1 < 0) = true) by simpa using hb)]
    simp only [if_neg hb]
    by_cases hg : m.Index - 1 > logEnd n.Log
    ·rw [if_pos (show decide (m.Index - 1 > logEnd n.Log) = true from decide_eq_true hg),if_pos hg,hrf (Message.mk m.Kind m.From m.To m.Term m.Index m.LogTerm m.Commit m.Ok m.Entries m.Conf m.Data m.Last) _ rfl]
     rfl
    ·rw [if_neg (show ¬ (decide (m.Index - 1 > logEnd n.Log) = true) by simpa using hg),if_neg hg,hrf (Message.mk m.Kind m.From m.To m.Term m.Index m.LogTerm m.Commit m.Ok m.Entries m.Conf m.Data m.Last) _ rfl]
     rfl
def withPeers (n : Node) (ps : List Peer) : Node := ⟨n.Id,n.Term,n.Vote,n.Role,n.Lead,n.Conf,n.Log,n.Commit,n.Clock,n.Limit,n.Votes,ps⟩
def lastIx (f : Int) : List Peer → Nat → Int → Int
 | [],_,acc => acc
 | p :: ps,k,acc => lastIx f ps (k + 1) (if p.Id = f then (k : Int) else acc)
theorem lastIx_in (f : Int) : ∀ (ps : List Peer) (k : Nat) (acc : Int),lastIx f ps k acc = acc ∨ ∃ j : Nat,j < ps.length ∧ lastIx f ps k acc = ((k + j : Nat) : Int)
 | [],k,acc => .inl rfl
 | p :: ps,k,acc => by
  rw [lastIx]
  rcases lastIx_in f ps (k + 1) (if p.Id = f then (k : Int) else acc) with h | ⟨j,hj,h⟩
  ·rw [h]
   split
   ·exact .inr ⟨0,by simp,by simp⟩
   ·exact .inl rfl
  ·exact .inr ⟨j + 1,by simp only [List.length_cons]; omega,by rw [h]; congr 1; omega⟩
theorem reply_l1 (N : Nat) (x : TR) (m : Message) (hq : x.n.Peers.length ≤ 1000) : ∀ (d f k : Nat) (acc : Int),x.n.Peers.length = k + d → d < f → s_l16Reply_l1 N x m f acc (k : Int) = some (lastIx m.From (x.n.Peers.drop k) k acc) := by
 intro d
 induction d with
 | zero =>
  intro f k acc hd hf
  obtain ⟨f,rfl⟩ : ∃ q,f = q + 1 := ⟨f - 1,by omega⟩
  rw [s_l16Reply_l1,if_neg (by simp; omega),List.drop_eq_nil_of_le (by omega)]
  rfl
 | succ d ih =>
  intro f k acc hd hf
  obtain ⟨f,rfl⟩ : ∃ q,f = q + 1 := ⟨f - 1,by omega⟩
  have hk : k < x.n.Peers.length := by omega
  rw [s_l16Reply_l1,if_pos (by simp; omega)]
  simp only [joinP]
  rw [at_lt hk,bO,w64_succ (by omega),List.drop_eq_getElem_cons hk,lastIx]
  by_cases h : x.n.Peers[k].Id = m.From
  ·rw [if_pos (by simpa using h),if_pos h,ih f (k + 1) _ (by omega) (by omega)]
  ·rw [if_neg (by simpa using h),if_neg h,ih f (k + 1) _ (by omega) (by omega)]
def mtOf (n : Node) (m : Message) (p : Peer) : Int := if (if m.Index > logEnd n.Log then logEnd n.Log else m.Index) > p.Match then (if m.Index > logEnd n.Log then logEnd n.Log else m.Index) else p.Match
def okPeer (n : Node) (m : Message) (p : Peer) : Peer := ⟨p.Id,mtOf n m p + 1,mtOf n m p,if m.Kind = 6 then 0 else p.Sent⟩
def nextOf (m : Message) (p : Peer) : Int := if (if m.Index + 1 < p.Match + 1 then p.Match + 1 else m.Index + 1) < p.Next then (if m.Index + 1 < p.Match + 1 then p.Match + 1 else m.Index + 1) else p.Next
def noPeer (n : Node) (m : Message) (p : Peer) : Peer := if m.Kind = 6 then ⟨p.Id,p.Next,p.Match,if m.Index = n.Log.Start ∧ m.Commit ≤ 20000 then m.Commit else 0⟩ else ⟨p.Id,nextOf m p,p.Match,p.Sent⟩
def replyTo (n : Node) (m : Message) (k : Nat) (p : Peer) : Node × List Message :=
 if m.Ok = true then (commitN (withPeers n (n.Peers.set k (okPeer n m p))),if (commitN (withPeers n (n.Peers.set k (okPeer n m p)))).Role = 2 ∧ mtOf n m p + 1 ≤ logEnd n.Log then [sendMsg (commitN (withPeers n (n.Peers.set k (okPeer n m p)))) (okPeer n m p)] else [])
 else (withPeers n (n.Peers.set k (noPeer n m p)),[sendMsg (withPeers n (n.Peers.set k (noPeer n m p))) (noPeer n m p)])
def replyN (n : Node) (m : Message) : Node × List Message :=
 if m.Term ≠ n.Term then (n,[]) else if n.Role ≠ 2 then (n,[]) else
 if lastIx m.From n.Peers 0 (-1) < 0 then (n,[]) else
 match n.Peers[(lastIx m.From n.Peers 0 (-1)).toNat]? with
 | some p => replyTo n m (lastIx m.From n.Peers 0 (-1)).toNat p
 | none => (n,[])
theorem peer_at {l : Int} {p : Peer} (h : peerOk l p = true) (hb : 0 ≤ l ∧ l ≤ 200000) : (1 ≤ p.Next ∧ p.Next ≤ l + 1) ∧ (0 ≤ p.Match ∧ p.Match ≤ p.Next - 1) ∧ (0 ≤ p.Sent ∧ p.Sent ≤ 20000) := by
 unfold peerOk at h
 simp only [Bool.and_eq_true,decide_eq_true_eq] at h
 obtain ⟨h1,h2,h3⟩ := h
 rw [w64_id (by omega) (by omega)] at h2
 exact ⟨h1,h2,h3⟩
theorem peer_mk {l : Int} {p : Peer} (hb : 0 ≤ l ∧ l ≤ 200000) (h1 : 1 ≤ p.Next ∧ p.Next ≤ l + 1) (h2 : 0 ≤ p.Match ∧ p.Match ≤ p.Next - 1) (h3 : 0 ≤ p.Sent ∧ p.Sent ≤ 20000) : peerOk l p = true := by
 unfold peerOk
 simp only [Bool.and_eq_true,decide_eq_true_eq]
 rw [w64_id (by omega) (by omega)]
 exact ⟨h1,h2,h3⟩
theorem Right.end_in {n : Node} (h : Right n) : 0 ≤ logEnd n.Log ∧ logEnd n.Log ≤ 200000 := by
 obtain ⟨a1,a2,a3,a4,a5,a6,a7⟩ := logOk_at h.log
 simp only [logEnd]
 omega
theorem mtOf_in {n : Node} {m : Message} {p : Peer} (hb : 0 ≤ logEnd n.Log ∧ logEnd n.Log ≤ 200000) (hp : peerOk (logEnd n.Log) p = true) (hm : 0 ≤ m.Index) : 0 ≤ mtOf n m p ∧ mtOf n m p ≤ logEnd n.Log := by
 obtain ⟨h1,h2,h3⟩ := peer_at hp hb
 unfold mtOf
 split <;> split <;> omega
theorem okPeer_ok {n : Node} {m : Message} {p : Peer} (hb : 0 ≤ logEnd n.Log ∧ logEnd n.Log ≤ 200000) (hp : peerOk (logEnd n.Log) p = true) (hm : 0 ≤ m.Index) : peerOk (logEnd n.Log) (okPeer n m p) = true := by
 have h0 := mtOf_in hb hp hm
 obtain ⟨h1,h2,h3⟩ := peer_at hp hb
 refine peer_mk hb (by show 1 ≤ mtOf n m p + 1 ∧ mtOf n m p + 1 ≤ logEnd n.Log + 1; omega) (by show 0 ≤ mtOf n m p ∧ mtOf n m p ≤ mtOf n m p + 1 - 1; omega) ?_
 show 0 ≤ (if m.Kind = 6 then 0 else p.Sent) ∧ (if m.Kind = 6 then 0 else p.Sent) ≤ 20000
 split <;> omega
theorem nextOf_in {m : Message} {p : Peer} (h2 : 0 ≤ p.Match ∧ p.Match ≤ p.Next - 1) : p.Match + 1 ≤ nextOf m p ∧ nextOf m p ≤ p.Next := by
 unfold nextOf
 split <;> split <;> omega
theorem noPeer_ok {n : Node} {m : Message} {p : Peer} (hb : 0 ≤ logEnd n.Log ∧ logEnd n.Log ≤ 200000) (hp : peerOk (logEnd n.Log) p = true) (hm : 0 ≤ m.Commit) : peerOk (logEnd n.Log) (noPeer n m p) = true := by
 obtain ⟨h1,h2,h3⟩ := peer_at hp hb
 have h4 := nextOf_in (m := m) h2
 unfold noPeer
 split
 ·refine peer_mk hb h1 h2 ?_
  show 0 ≤ (if m.Index = n.Log.Start ∧ m.Commit ≤ 20000 then m.Commit else 0) ∧ (if m.Index = n.Log.Start ∧ m.Commit ≤ 20000 then m.Commit else 0) ≤ 20000
  split <;> omega
 ·exact peer_mk hb (by show 1 ≤ nextOf m p ∧ nextOf m p ≤ logEnd n.Log + 1; omega) (by show 0 ≤ p.Match ∧ p.Match ≤ nextOf m p - 1; omega) h3
theorem okPeer_id (n : Node) (m : Message) (p : Peer) : (okPeer n m p).Id = p.Id := rfl
theorem noPeer_id (n : Node) (m : Message) (p : Peer) : (noPeer n m p).Id = p.Id := by unfold noPeer; split <;> rfl
theorem set_ids {ps : List Peer} {k : Nat} {p q : Peer} (hp : ps[k]? = some p) (hq : q.Id = p.Id) : (ps.set k q).map (·.Id) = ps.map (·.Id) := by
 rw [List.map_set,hq]
 apply List.ext_getElem?
 intro i
 rw [List.getElem?_set]
 split
 ·rename_i h
  subst h
  have hk := (List.getElem?_eq_some_iff.1 hp).1
  rw [if_pos (by simpa using hk),List.getElem?_map,hp]
  rfl
 ·rfl
theorem Right.setPeer {n : Node} (h : Right n) (hr : n.Role = 2) {k : Nat} {p q : Peer} (hp : n.Peers[k]? = some p) (hq : q.Id = p.Id) (hok : peerOk (logEnd n.Log) q = true) : Right (withPeers n (n.Peers.set k q)) := by
 refine ⟨h.id,h.conf,h.log,h.term,h.vote,h.lead,h.role,h.com,h.limit,h.clock,h.votes,h.voted,fun _ => ⟨?_,?_⟩,fun e => absurd hr e⟩
 ·show (n.Peers.set k q).map (·.Id) = _
  rw [set_ids hp hq]
  exact (h.peers hr).1
 ·intro z hz
  rcases List.mem_or_eq_of_mem_set hz with hz | rfl
  ·exact (h.peers hr).2 z hz
  ·exact hok
theorem reply_spec (N : Nat) (hN : Big N) (n : Node) (m : Message) (h : Right n) (hm : MsgRight m) : s_l16Reply N ⟨n,[]⟩ m = some ⟨(replyN n m).1,(replyN n m).2⟩ := by
 obtain ⟨a1,a2,a3,a4,a5,a6,a7⟩ := logOk_at h.log
 have hpl := h.plen
 have hcl := h.clen
 have hb := h.end_in
 have hix := hm.index
 have hcm := hm.commit
 unfold s_l16Reply replyN s_l12Last
 by_cases h1 : m.Term = n.Term
 ·rw [if_neg (show ¬ ((m.Term != n.Term) = true) by simpa using h1),if_neg (not_not_intro h1)]
  by_cases h2 : n.Role = 2
  ·rw [if_neg (show ¬ ((n.Role != (2 : Int)) = true) by simpa using h2),if_neg (not_not_intro h2)]
   simp only [joinP]
   have hl : s_l16Reply_l1 N ⟨n,[]⟩ m N (-1) (0 : Int) = some (lastIx m.From n.Peers 0 (-1)) := reply_l1 N ⟨n,[]⟩ m (by simp only; omega) n.Peers.length N 0 (-1) (by simp) (by have := hN; unfold Big at this; omega)
   rw [hl,bO]
   rcases lastIx_in m.From n.Peers 0 (-1) with hv | ⟨j,hj,hv⟩
   ·rw [hv,if_pos (show decide ((-1 : Int) < (0 : Int)) = true from rfl),if_pos (show (-1 : Int) < 0 by decide)]
   ·rw [hv,if_neg (show ¬ (decide (((0 + j : Nat) : Int) < (0 : Int)) = true) by rw [decide_eq_true_eq]; omega),if_neg (show ¬ (((0 + j : Nat) : Int) < 0) by omega)]
    simp only [Nat.zero_add]
    rw [w64_id (n := n.Log.Start + n.Log.Entries.length) (by omega) (by omega),show n.Log.Start + (n.Log.Entries.length : Int) = logEnd n.Log from rfl,bO,at_lt hj,bO,Int.toNat_natCast,List.getElem?_eq_getElem hj]
    simp only [bO]
    have hp := (h.peers h2).2 n.Peers[j] (List.getElem_mem hj)
    have hpj : n.Peers[j]? = some n.Peers[j] := List.getElem?_eq_getElem hj
    generalize n.Peers[j] = p at hp hpj
    obtain ⟨g1,g2,g3⟩ := peer_at hp hb
    unfold replyTo
    cases hok : m.Ok with
    | true =>
     rw [if_pos rfl,if_pos rfl]
     have hmt := mtOf_in (m := m) hb hp hix.1
     have hpo := okPeer_ok (m := m) hb hp hix.1
     have hR := h.setPeer h2 hpj (okPeer_id n m p) hpo
     have hcs := commit_spec N hN (withPeers n (n.Peers.set j (okPeer n m p))) [] hR.log (by have := hR.tot; omega) (by have := hR.plen; omega) (by have := hR.clen; omega) hR.com
     have hsd := send_spec N hN (commitN (withPeers n (n.Peers.set j (okPeer n m p)))) [] (okPeer n m p) hR.commit.log (by rw [commitN_log]; exact hpo) (by simp) (by have := hR.commit.clen; omega)
     have hfin : ∀ X : Peer,X = okPeer n m p →
       ((s_l16Commit N (TR.mk (Node.mk n.Id n.Term n.Vote n.Role n.Lead n.Conf n.Log n.Commit n.Clock n.Limit n.Votes (n.Peers.set j X)) [])).bind fun y_439 =>
        (if (y_439.n.Role == (2 : Int)) = true then
         (if (decide (X.Next ≤ logEnd n.Log)) = true then
          (s_l16Send N y_439 X).bind fun y_444 => some (TR.mk (Node.mk y_444.n.Id y_444.n.Term y_444.n.Vote y_444.n.Role y_444.n.Lead y_439.n.Conf (Log.mk y_444.n.Log.Start y_444.n.Log.StartTerm y_439.n.Log.Entries) y_444.n.Commit y_444.n.Clock y_444.n.Limit y_439.n.Votes y_439.n.Peers) y_444.told)
         else some y_439)
        else some y_439)) = some ⟨commitN (withPeers n (n.Peers.set j (okPeer n m p))),if (commitN (withPeers n (n.Peers.set j (okPeer n m p)))).Role = 2 ∧ mtOf n m p + 1 ≤ logEnd n.Log then [sendMsg (commitN (withPeers n (n.Peers.set j (okPeer n m p)))) (okPeer n m p)] else []⟩ := by
      intro X hX
      subst hX
      rw [show (Node.mk n.Id n.Term n.Vote n.Role n.Lead n.Conf n.Log n.Commit n.Clock n.Limit n.Votes (n.Peers.set j (okPeer n m p))) = withPeers n (n.Peers.set j (okPeer n m p)) from rfl,hcs,bO]
      simp only
      by_cases r2 : (commitN (withPeers n (n.Peers.set j (okPeer n m p)))).Role = 2
      ·rw [if_pos (by simpa using r2)]
       by_cases q : mtOf n m p + 1 ≤ logEnd n.Log
       ·rw [if_pos (show decide ((okPeer n m p).Next ≤ logEnd n.Log) = true from decide_eq_true q),hsd,bO,if_pos ⟨r2,q⟩]
        rfl
       ·rw [if_neg (show ¬ (decide ((okPeer n m p).Next ≤ logEnd n.Log) = true) from fun e => q (of_decide_eq_true e)),if_neg (fun e => q e.2)]
      ·rw [if_neg (by simpa using r2),if_neg (fun e => r2 e.1)]
     by_cases c1 : m.Index > logEnd n.Log
     ·rw [if_pos (show decide (m.Index > logEnd n.Log) = true from decide_eq_true c1)]
      by_cases c2 : logEnd n.Log > p.Match
      ·rw [if_pos (show decide (logEnd n.Log > p.Match) = true from decide_eq_true c2),w64_id (n := logEnd n.Log + 1) (by omega) (by omega)]
       by_cases k6 : m.Kind = 6
       ·rw [if_pos (show (m.Kind == (6 : Int)) = true by simpa using k6)]
        exact hfin _ (by simp only [okPeer,mtOf,if_pos c1,if_pos c2,if_pos k6])
       ·rw [if_neg (show ¬ ((m.Kind == (6 : Int)) = true) by simpa using k6)]
        exact hfin _ (by simp only [okPeer,mtOf,if_pos c1,if_pos c2,if_neg k6])
      ·rw [if_neg (show ¬ (decide (logEnd n.Log > p.Match) = true) by simpa using c2),w64_id (n := p.Match + 1) (by omega) (by omega)]
       by_cases k6 : m.Kind = 6
       ·rw [if_pos (show (m.Kind == (6 : Int)) = true by simpa using k6)]
        exact hfin _ (by simp only [okPeer,mtOf,if_pos c1,if_neg c2,if_pos k6])
       ·rw [if_neg (show ¬ ((m.Kind == (6 : Int)) = true) by simpa using k6)]
        exact hfin _ (by simp only [okPeer,mtOf,if_pos c1,if_neg c2,if_neg k6])
     ·rw [if_neg (show ¬ (decide (m.Index > logEnd n.Log) = true) by simpa using c1)]
      by_cases c2 : m.Index > p.Match
      ·rw [if_pos (show decide (m.Index > p.Match) = true from decide_eq_true c2),w64_id (n := m.Index + 1) (by omega) (by omega)]
       by_cases k6 : m.Kind = 6
       ·rw [if_pos (show (m.Kind == (6 : Int)) = true by simpa using k6)]
        exact hfin _ (by simp only [okPeer,mtOf,if_neg c1,if_pos c2,if_pos k6])
       ·rw [if_neg (show ¬ ((m.Kind == (6 : Int)) = true) by simpa using k6)]
        exact hfin _ (by simp only [okPeer,mtOf,if_neg c1,if_pos c2,if_neg k6])
      ·rw [if_neg (show ¬ (decide (m.Index > p.Match) = true) by simpa using c2),w64_id (n := p.Match + 1) (by omega) (by omega)]
       by_cases k6 : m.Kind = 6
       ·rw [if_pos (show (m.Kind == (6 : Int)) = true by simpa using k6)]
        exact hfin _ (by simp only [okPeer,mtOf,if_neg c1,if_neg c2,if_pos k6])
       ·rw [if_neg (show ¬ ((m.Kind == (6 : Int)) = true) by simpa using k6)]
        exact hfin _ (by simp only [okPeer,mtOf,if_neg c1,if_neg c2,if_neg k6])
    | false =>
     rw [if_neg (show ¬ (false = true) by decide),if_neg (show ¬ (false = true) by decide)]
     have hpo := noPeer_ok (n := n) (m := m) hb hp hcm.1
     have hR := h.setPeer h2 hpj (noPeer_id n m p) hpo
     have hsd := send_spec N hN (withPeers n (n.Peers.set j (noPeer n m p))) [] (noPeer n m p) hR.log hpo (by simp) (by have := hR.clen; omega)
     have hfin : ∀ X : Peer,X = noPeer n m p →
       ((s_l16Send N (TR.mk (Node.mk n.Id n.Term n.Vote n.Role n.Lead n.Conf n.Log n.Commit n.Clock n.Limit n.Votes (n.Peers.set j X)) []) X).bind fun y_467 =>
        some (TR.mk (Node.mk y_467.n.Id y_467.n.Term y_467.n.Vote y_467.n.Role y_467.n.Lead n.Conf (Log.mk y_467.n.Log.Start y_467.n.Log.StartTerm n.Log.Entries) y_467.n.Commit y_467.n.Clock y_467.n.Limit n.Votes (n.Peers.set j X)) y_467.told)) = some ⟨withPeers n (n.Peers.set j (noPeer n m p)),[sendMsg (withPeers n (n.Peers.set j (noPeer n m p))) (noPeer n m p)]⟩ := by
      intro X hX
      subst hX
      rw [show (Node.mk n.Id n.Term n.Vote n.Role n.Lead n.Conf n.Log n.Commit n.Clock n.Limit n.Votes (n.Peers.set j (noPeer n m p))) = withPeers n (n.Peers.set j (noPeer n m p)) from rfl,hsd,bO]
      rfl
     by_cases k6 : m.Kind = 6
     ·rw [if_pos (show (m.Kind == (6 : Int)) = true by simpa using k6)]
      by_cases c1 : m.Index = n.Log.Start
      ·rw [if_pos (show (m.Index == n.Log.Start) = true by simpa using c1)]
       by_cases c2 : m.Commit ≤ 20000
       ·rw [if_pos (show decide (m.Commit ≤ (20000 : Int)) = true from decide_eq_true c2)]
        exact hfin _ (by simp only [noPeer,if_pos k6,if_pos (And.intro c1 c2)])
       ·rw [if_neg (show ¬ (decide (m.Commit ≤ (20000 : Int)) = true) by simpa using c2)]
        exact hfin _ (by simp only [noPeer,if_pos k6,if_neg (fun e : m.Index = n.Log.Start ∧ m.Commit ≤ 20000 => c2 e.2)])
      ·rw [if_neg (show ¬ ((m.Index == n.Log.Start) = true) by simpa using c1)]
       exact hfin _ (by simp only [noPeer,if_pos k6,if_neg (fun e : m.Index = n.Log.Start ∧ m.Commit ≤ 20000 => c1 e.1)])
     ·rw [if_neg (show ¬ ((m.Kind == (6 : Int)) = true) by simpa using k6),w64_id (n := m.Index + 1) (by omega) (by omega),w64_id (n := p.Match + 1) (by omega) (by omega)]
      by_cases c1 : m.Index + 1 < p.Match + 1
      ·rw [if_pos (show decide (m.Index + 1 < p.Match + 1) = true from decide_eq_true c1)]
       by_cases c2 : p.Match + 1 < p.Next
       ·rw [if_pos (show decide (p.Match + 1 < p.Next) = true from decide_eq_true c2)]
        exact hfin _ (by simp only [noPeer,nextOf,if_neg k6,if_pos c1,if_pos c2])
       ·rw [if_neg (show ¬ (decide (p.Match + 1 < p.Next) = true) by simpa using c2)]
        exact hfin _ (by simp only [noPeer,nextOf,if_neg k6,if_pos c1,if_neg c2])
      ·rw [if_neg (show ¬ (decide (m.Index + 1 < p.Match + 1) = true) by simpa using c1)]
       by_cases c2 : m.Index + 1 < p.Next
       ·rw [if_pos (show decide (m.Index + 1 < p.Next) = true from decide_eq_true c2)]
        exact hfin _ (by simp only [noPeer,nextOf,if_neg k6,if_neg c1,if_pos c2])
       ·rw [if_neg (show ¬ (decide (m.Index + 1 < p.Next) = true) by simpa using c2)]
        exact hfin _ (by simp only [noPeer,nextOf,if_neg k6,if_neg c1,if_neg c2])
  ·rw [if_pos (show (n.Role != (2 : Int)) = true by simpa using h2),if_pos h2]
 ·rw [if_pos (show (m.Term != n.Term) = true by simpa using h1),if_pos h1]
def installN (n : Node) (m : Message) : Node × List Message := if m.Term ≥ n.Term then (follow n m.From,[]) else (n,[])
def recvBody (n : Node) (m : Message) : Node × List Message :=
 if m.Kind = 1 then askVoteN n m else if m.Kind = 2 then tellVoteN n m else if m.Kind = 3 then askAppendN n m else if m.Kind = 4 ∨ m.Kind = 6 then replyN n m else installN n m
def recvN (n : Node) (m : Message) : Node × List Message × Bool :=
 if nodeOk n = false then (zNode,[],false) else if messageOk m = false then (zNode,[],false) else if m.To ≠ n.Id then (zNode,[],false) else
 ((recvBody (stepUp n m) m).1,(recvBody (stepUp n m) m).2,true)
theorem bind_of {α β : Type} {o : Option α} {a : α} {f : α → Option β} {r : Option β} (h : o = some a) (hf : f a = r) : o.bind f = r := by
 subst h
 exact hf
theorem Right.stepUp {n : Node} (h : Right n) {m : Message} (hm : MsgRight m) : Right (Pe.FnNodes.stepUp n m) := by
 have ht := h.term
 have hmt := hm.term
 unfold Pe.FnNodes.stepUp
 split
 ·exact ⟨h.id,h.conf,h.log,by show logTerm n.Log ≤ m.Term ∧ m.Term ≤ 100000; omega,z4,z4,z2,h.com,h.limit,h.clock,rfl,(fun _ => rfl),(fun e => absurd (show (0 : Int) = 2 from e) (by decide)),(fun _ => rfl)⟩
 ·exact h
theorem receive_spec (N : Nat) (hN : Big N) (n : Node) (m : Message) (h : totNode n ≤ 1099511627) (htm : totMessage m ≤ 1099511627) : s_Receive N n m = some (recvN n m) := by
 unfold s_Receive recvN
 rw [nodeOk_spec N hN n h,bO]
 cases hk : nodeOk n with
 | false => rfl
 | true =>
  have hr := right_of hk
  rw [if_neg (show ¬ ((!true) = true) by decide),if_neg (show ¬ (true = false) by decide),messageOk_spec N hN m htm,bO]
  cases hmk : messageOk m with
  | false => rfl
  | true =>
   have hm := msg_of hmk
   rw [if_neg (show ¬ ((!true) = true) by decide),if_neg (show ¬ (true = false) by decide)]
   by_cases hto : m.To = n.Id
   ·rw [if_neg (show ¬ ((m.To != n.Id) = true) by simpa using hto),if_neg (not_not_intro hto),copy_spec N n h,bO]
    simp only [joinP]
    have hR := hr.stepUp hm
    by_cases ht : m.Term > n.Term
    ·have hs : stepUp n m = ⟨n.Id,m.Term,0,0,0,n.Conf,n.Log,n.Commit,n.Clock,n.Limit,[],[]⟩ := if_pos ht
     rw [hs] at hR ⊢
     unfold s_l16Follow_i1
     rw [if_pos (show decide (m.Term > n.Term) = true from decide_eq_true ht),bO]
     simp only
     by_cases k1 : m.Kind = 1
     ·rw [if_pos (show (m.Kind == (1 : Int)) = true by simpa using k1)]
      unfold recvBody
      rw [if_pos k1]
      refine bind_of (askVote_spec N ⟨n.Id,m.Term,0,0,0,n.Conf,n.Log,n.Commit,n.Clock,n.Limit,[],[]⟩ m hR.log) ?_
      unfold askVoteN voted
      split <;> rfl
     rw [if_neg (show ¬ ((m.Kind == (1 : Int)) = true) by simpa using k1)]
     by_cases k2 : m.Kind = 2
     ·rw [if_pos (show (m.Kind == (2 : Int)) = true by simpa using k2)]
      unfold recvBody
      rw [if_neg k1,if_pos k2]
      exact bind_of (tellVote_spec N hN ⟨n.Id,m.Term,0,0,0,n.Conf,n.Log,n.Commit,n.Clock,n.Limit,[],[]⟩ m hR) rfl
     rw [if_neg (show ¬ ((m.Kind == (2 : Int)) = true) by simpa using k2)]
     by_cases k3 : m.Kind = 3
     ·rw [if_pos (show (m.Kind == (3 : Int)) = true by simpa using k3)]
      unfold recvBody
      rw [if_neg k1,if_neg k2,if_pos k3]
      exact bind_of (askAppend_spec N hN ⟨n.Id,m.Term,0,0,0,n.Conf,n.Log,n.Commit,n.Clock,n.Limit,[],[]⟩ m hR hm) rfl
     rw [if_neg (show ¬ ((m.Kind == (3 : Int)) = true) by simpa using k3)]
     by_cases k4 : m.Kind = 4
     ·rw [if_pos (show (m.Kind == (4 : Int)) = true by simpa using k4)]
      unfold recvBody
      rw [if_neg k1,if_neg k2,if_neg k3,if_pos (Or.inl k4)]
      exact bind_of (reply_spec N hN ⟨n.Id,m.Term,0,0,0,n.Conf,n.Log,n.Commit,n.Clock,n.Limit,[],[]⟩ m hR hm) rfl
     rw [if_neg (show ¬ ((m.Kind == (4 : Int)) = true) by simpa using k4)]
     by_cases k6 : m.Kind = 6
     ·rw [if_pos (show (m.Kind == (6 : Int)) = true by simpa using k6)]
      unfold recvBody
      rw [if_neg k1,if_neg k2,if_neg k3,if_pos (Or.inr k6)]
      exact bind_of (reply_spec N hN ⟨n.Id,m.Term,0,0,0,n.Conf,n.Log,n.Commit,n.Clock,n.Limit,[],[]⟩ m hR hm) rfl
     rw [if_neg (show ¬ ((m.Kind == (6 : Int)) = true) by simpa using k6)]
     have k5 : m.Kind = 5 := by have := hm.kind; omega
     rw [if_pos (show (m.Kind == (5 : Int)) = true by simpa using k5)]
     unfold recvBody installN
     rw [if_neg k1,if_neg k2,if_neg k3,if_neg (show ¬ (m.Kind = 4 ∨ m.Kind = 6) from fun e => e.elim k4 k6)]
     by_cases c : m.Term ≥ m.Term
     ·rw [if_pos (show decide (m.Term ≥ m.Term) = true from decide_eq_true c)]
      simp only [if_pos c]
      rfl
     ·rw [if_neg (show ¬ (decide (m.Term ≥ m.Term) = true) from fun e => c (of_decide_eq_true e))]
      simp only [if_neg c]
    ·have hs : stepUp n m = n := if_neg ht
     rw [hs] at hR ⊢
     rw [if_neg (show ¬ (decide (m.Term > n.Term) = true) by simpa using ht)]
     by_cases k1 : m.Kind = 1
     ·rw [if_pos (show (m.Kind == (1 : Int)) = true by simpa using k1)]
      unfold recvBody
      rw [if_pos k1]
      refine bind_of (askVote_spec N n m hR.log) ?_
      unfold askVoteN voted
      split <;> rfl
     rw [if_neg (show ¬ ((m.Kind == (1 : Int)) = true) by simpa using k1)]
     by_cases k2 : m.Kind = 2
     ·rw [if_pos (show (m.Kind == (2 : Int)) = true by simpa using k2)]
      unfold recvBody
      rw [if_neg k1,if_pos k2]
      exact bind_of (tellVote_spec N hN n m hR) rfl
     rw [if_neg (show ¬ ((m.Kind == (2 : Int)) = true) by simpa using k2)]
     by_cases k3 : m.Kind = 3
     ·rw [if_pos (show (m.Kind == (3 : Int)) = true by simpa using k3)]
      unfold recvBody
      rw [if_neg k1,if_neg k2,if_pos k3]
      exact bind_of (askAppend_spec N hN n m hR hm) rfl
     rw [if_neg (show ¬ ((m.Kind == (3 : Int)) = true) by simpa using k3)]
     by_cases k4 : m.Kind = 4
     ·rw [if_pos (show (m.Kind == (4 : Int)) = true by simpa using k4)]
      unfold recvBody
      rw [if_neg k1,if_neg k2,if_neg k3,if_pos (Or.inl k4)]
      exact bind_of (reply_spec N hN n m hR hm) rfl
     rw [if_neg (show ¬ ((m.Kind == (4 : Int)) = true) by simpa using k4)]
     by_cases k6 : m.Kind = 6
     ·rw [if_pos (show (m.Kind == (6 : Int)) = true by simpa using k6)]
      unfold recvBody
      rw [if_neg k1,if_neg k2,if_neg k3,if_pos (Or.inr k6)]
      exact bind_of (reply_spec N hN n m hR hm) rfl
     rw [if_neg (show ¬ ((m.Kind == (6 : Int)) = true) by simpa using k6)]
     have k5 : m.Kind = 5 := by have := hm.kind; omega
     rw [if_pos (show (m.Kind == (5 : Int)) = true by simpa using k5)]
     unfold recvBody installN
     rw [if_neg k1,if_neg k2,if_neg k3,if_neg (show ¬ (m.Kind = 4 ∨ m.Kind = 6) from fun e => e.elim k4 k6)]
     by_cases c : m.Term ≥ n.Term
     ·rw [if_pos (show decide (m.Term ≥ n.Term) = true from decide_eq_true c)]
      simp only [if_pos c]
      rfl
     ·rw [if_neg (show ¬ (decide (m.Term ≥ n.Term) = true) from fun e => c (of_decide_eq_true e))]
      simp only [if_neg c]
   ·rw [if_pos (show (m.To != n.Id) = true by simpa using hto),if_pos hto]
    rfl
theorem Right.follow {n : Node} (h : Right n) {i : Int} (hi : 0 ≤ i ∧ i ≤ 4) : Right (Pe.FnNodes.follow n i) :=
 ⟨h.id,h.conf,h.log,h.term,h.vote,hi,z2,h.com,h.limit,z20,rfl,(fun _ => rfl),(fun e => absurd (show (0 : Int) = 2 from e) (by decide)),(fun _ => rfl)⟩
theorem comWith_in (n : Node) (m : Message) (k : Int) : n.Commit ≤ comWith n m k ∧ (comWith n m k ≤ n.Commit ∨ comWith n m k ≤ k) := by
 unfold comWith
 split <;> split <;> omega
theorem logTerm_app {a b : Int} {es fs : List Entry} (h : fs ≠ []) : ∃ e ∈ fs,logTerm ⟨a,b,es ++ fs⟩ = e.Term := by
 refine ⟨fs.getLast h,List.getLast_mem h,?_⟩
 unfold logTerm
 simp only
 rw [List.getLast?_append,List.getLast?_eq_some_getLast h]
 rfl
theorem appN_right {n : Node} (h : Right n) {m : Message} (hm : MsgRight m) {k : Int} {l : List Entry} (hl : logOk ⟨n.Log.Start,n.Log.StartTerm,l⟩ = true) (ht : logTerm ⟨n.Log.Start,n.Log.StartTerm,l⟩ ≤ n.Term) (hk : k ≤ n.Log.Start + l.length) (hc : n.Commit ≤ n.Log.Start + l.length) : Right (appN n m k l).1 := by
 have hf := hm.frm
 have hcw := comWith_in n m k
 have hco := h.com
 refine ⟨h.id,h.conf,hl,⟨ht,h.term.2⟩,h.vote,by show 0 ≤ m.From ∧ m.From ≤ 4; omega,z2,?_,h.limit,z20,rfl,(fun _ => rfl),(fun e => absurd (show (0 : Int) = 2 from e) (by decide)),(fun _ => rfl)⟩
 show n.Log.Start ≤ comWith n m k ∧ comWith n m k ≤ n.Log.Start + l.length
 omega
theorem told_of {n : Node} {m : Message} (hm : MsgRight m) {x : Message} (ht : x.To = m.From) (he : x.Entries = []) (hc : x.Conf = []) (hd : x.Data = (⟨#[]⟩ : ByteArray)) (hk : x.Kind ≠ 6) : Told n x := by
 refine ⟨by rw [ht]; exact hm.frm,?_,hk⟩
 simp only [totMessage,totL,he,hc,hd,List.length_nil,List.map_nil,List.sum_nil]
 exact Nat.zero_le _
theorem askVote_right {n : Node} (h : Right n) {m : Message} (hm : MsgRight m) : Right (askVoteN n m).1 ∧ (askVoteN n m).1.Id = n.Id ∧ ∀ x ∈ (askVoteN n m).2,Told (askVoteN n m).1 x := by
 have hf := hm.frm
 refine ⟨?_,?_,fun x hx => ?_⟩
 ·unfold askVoteN voted
  simp only
  split
  ·exact ⟨h.id,h.conf,h.log,h.term,by show 0 ≤ m.From ∧ m.From ≤ 4; omega,h.lead,h.role,h.com,h.limit,z20,h.votes,h.voted,h.peers,h.alone⟩
  ·exact h
 ·unfold askVoteN voted
  simp only
  split <;> rfl
 ·unfold askVoteN at hx
  simp only [List.mem_singleton] at hx
  subst hx
  exact told_of hm rfl rfl rfl rfl (show ¬ ((2 : Int) = 6) by decide)
theorem tellVote_right {n : Node} (h : Right n) {m : Message} (hm : MsgRight m) : Right (tellVoteN n m).1 ∧ (tellVoteN n m).1.Id = n.Id ∧ ∀ x ∈ (tellVoteN n m).2,Told (tellVoteN n m).1 x := by
 unfold tellVoteN
 split
 ·exact ⟨h,rfl,fun x hx => by cases hx⟩
 split
 ·exact ⟨h,rfl,fun x hx => by cases hx⟩
 split
 ·exact ⟨h,rfl,fun x hx => by cases hx⟩
 rename_i hr
 have hr1 : n.Role = 1 := Decidable.not_not.1 hr
 have hw : Right (withVotes n (newVotes n m)) := ⟨h.id,h.conf,h.log,h.term,h.vote,h.lead,h.role,h.com,h.limit,h.clock,newVotes_rise n m,(fun e => absurd hr1 e),(fun e => by have e2 : n.Role = 2 := e; omega),h.alone⟩
 split
 ·exact ⟨hw.leadN,leadN_id _,sends_told hw.leadN⟩
 ·exact ⟨hw,rfl,fun x hx => by cases hx⟩
theorem askAppend_right {n : Node} (h : Right n) {m : Message} (hm : MsgRight m) (hle : m.Term ≤ n.Term) : Right (askAppendN n m).1 ∧ (askAppendN n m).1.Id = n.Id ∧ ∀ x ∈ (askAppendN n m).2,Told (askAppendN n m).1 x := by
 obtain ⟨f1,f2,f3,f4⟩ := appFrom_ok h hm
 have hf := hm.frm
 have hfo := h.follow (i := m.From) (by omega)
 have hterm : ∀ e ∈ (appFrom n m).2.2,0 ≤ e.Term := fun e he => (entOk_term (msgTerms_mem hm.terms e (f4 e he)).1).1
 have htold : ∀ (y : Node) (i : Int),∀ x ∈ [refuseMsg n m i],Told y x := fun y i x hx => by
  simp only [List.mem_singleton] at hx
  subst hx
  exact told_of hm rfl rfl rfl rfl (show ¬ ((4 : Int) = 6) by decide)
 have htold2 : ∀ (y : Node) (k : Int) (l : List Entry),∀ x ∈ (appN n m k l).2,Told y x := fun y k l x hx => by
  unfold appN at hx
  simp only [List.mem_singleton] at hx
  subst hx
  exact told_of hm rfl rfl rfl rfl (show ¬ ((4 : Int) = 6) by decide)
 obtain ⟨g1,g2,g3⟩ := agree_in (l := n.Log) (i := (appFrom n m).1) (es := (appFrom n m).2.2) (k := 0) hterm
 have hco := h.com
 simp only [logEnd] at hco
 unfold askAppendN
 split
 ·exact ⟨h,rfl,htold _ _⟩
 split
 ·exact ⟨hfo,rfl,htold _ _⟩
 rename_i he
 have he' : termAt n.Log (appFrom n m).1 = (appFrom n m).2.1 := Decidable.not_not.1 he
 have hin : n.Log.Start ≤ (appFrom n m).1 ∧ (appFrom n m).1 ≤ n.Log.Start + n.Log.Entries.length := by
  by_cases hx : n.Log.Start ≤ (appFrom n m).1 ∧ (appFrom n m).1 ≤ n.Log.Start + n.Log.Entries.length
  ·exact hx
  ·have := termAt_out hx
   omega
 split
 ·rename_i hlt
  split
  ·exact ⟨hfo,rfl,htold _ _⟩
  rename_i hcm
  split
  ·exact ⟨hfo,rfl,htold _ _⟩
  rename_i hj
  have hj' : logOk ⟨n.Log.Start,n.Log.StartTerm,joined n (appFrom n m).1 (agree n.Log (appFrom n m).1 (appFrom n m).2.2 0) (appFrom n m).2.2⟩ = true := by simpa using hj
  generalize agree n.Log (appFrom n m).1 (appFrom n m).2.2 0 = k at g1 g2 g3 hlt hcm hj' ⊢
  have hin2 : n.Log.Start ≤ (appFrom n m).1 + k ∧ (appFrom n m).1 + k ≤ n.Log.Start + n.Log.Entries.length := by
   rcases g1 with g1 | g1
   ·rw [g1]
    omega
   ·exact g1
  have hlen : ((joined n (appFrom n m).1 k (appFrom n m).2.2).length : Int) = (appFrom n m).1 + (appFrom n m).2.2.length - n.Log.Start := by
   unfold joined
   simp only [List.length_append,List.length_take,List.length_drop]
   omega
  refine ⟨appN_right h hm hj' ?_ (by omega) (by omega),rfl,htold2 _ _ _⟩
  unfold joined
  obtain ⟨e,he,hq⟩ := logTerm_app (a := n.Log.Start) (b := n.Log.StartTerm) (es := n.Log.Entries.take ((appFrom n m).1 + k - n.Log.Start).toNat) (fs := (appFrom n m).2.2.drop k) (by
   intro hnil
   have := congrArg List.length hnil
   simp only [List.length_drop,List.length_nil] at this
   omega)
  rw [hq]
  have := (msgTerms_mem hm.terms e (f4 e (List.mem_of_mem_drop he))).2
  omega
 ·rename_i hlt
  refine ⟨appN_right h hm h.log h.term.1 ?_ hco.2,rfl,htold2 _ _ _⟩
  rcases g1 with g1 | g1 <;> omega
theorem reply_right {n : Node} (h : Right n) {m : Message} (hm : MsgRight m) : Right (replyN n m).1 ∧ (replyN n m).1.Id = n.Id ∧ ∀ x ∈ (replyN n m).2,Told (replyN n m).1 x := by
 have hb := h.end_in
 unfold replyN
 split
 ·exact ⟨h,rfl,fun x hx => by cases hx⟩
 split
 ·exact ⟨h,rfl,fun x hx => by cases hx⟩
 rename_i hr
 have hr2 : n.Role = 2 := Decidable.not_not.1 hr
 split
 ·exact ⟨h,rfl,fun x hx => by cases hx⟩
 split
 ·rename_i p hpj
  generalize (lastIx m.From n.Peers 0 (-1)).toNat = j at hpj
  have hp := (h.peers hr2).2 p (List.mem_of_getElem? hpj)
  unfold replyTo
  split
  ·have hR := h.setPeer hr2 hpj (okPeer_id n m p) (okPeer_ok (m := m) hb hp hm.index.1)
   refine ⟨hR.commit,commitN_id _,fun x hx => ?_⟩
   simp only at hx ⊢
   split at hx
   ·rename_i hq
    simp only [List.mem_singleton] at hx
    subst hx
    refine send_told hR.commit hq.1 ?_
    rcases commitN_peers (withPeers n (n.Peers.set j (okPeer n m p))) with e | e
    ·exfalso
     have h9 := (hR.commit.peers hq.1).1
     have hco : confOf (commitN (withPeers n (n.Peers.set j (okPeer n m p)))) = confOf n := by
      unfold confOf confAt
      rw [commitN_log,commitN_conf]
      rfl
     rw [hco,e,commitN_id] at h9
     have h10 := (h.peers hr2).1
     rw [show (withPeers n (n.Peers.set j (okPeer n m p))).Id = n.Id from rfl,← h10] at h9
     have h11 := congrArg List.length h9
     have h12 := (List.getElem?_eq_some_iff.1 hpj).1
     simp only [List.map_nil,List.length_nil,List.length_map] at h11
     omega
    ·rw [e]
     show (okPeer n m p).Id ∈ (n.Peers.set j (okPeer n m p)).map (·.Id)
     rw [set_ids hpj (okPeer_id n m p),okPeer_id]
     exact List.mem_map.2 ⟨p,List.mem_of_getElem? hpj,rfl⟩
   ·cases hx
  ·have hR := h.setPeer hr2 hpj (noPeer_id n m p) (noPeer_ok (n := n) (m := m) hb hp hm.commit.1)
   refine ⟨hR,rfl,fun x hx => ?_⟩
   simp only [List.mem_singleton] at hx
   subst hx
   refine send_told hR hr2 ?_
   show (noPeer n m p).Id ∈ (n.Peers.set j (noPeer n m p)).map (·.Id)
   rw [set_ids hpj (noPeer_id n m p),noPeer_id]
   exact List.mem_map.2 ⟨p,List.mem_of_getElem? hpj,rfl⟩
 ·exact ⟨h,rfl,fun x hx => by cases hx⟩
theorem body_right {n : Node} (h : Right n) {m : Message} (hm : MsgRight m) (hle : m.Term ≤ n.Term) : Right (recvBody n m).1 ∧ (recvBody n m).1.Id = n.Id ∧ ∀ x ∈ (recvBody n m).2,Told (recvBody n m).1 x := by
 have hf := hm.frm
 unfold recvBody
 split
 ·exact askVote_right h hm
 split
 ·exact tellVote_right h hm
 split
 ·exact askAppend_right h hm hle
 split
 ·exact reply_right h hm
 ·unfold installN
  split
  ·exact ⟨h.follow (by omega),rfl,fun x hx => by cases hx⟩
  ·exact ⟨h,rfl,fun x hx => by cases hx⟩
theorem stepUp_id (n : Node) (m : Message) : (stepUp n m).Id = n.Id := by unfold stepUp; split <;> rfl
theorem stepUp_le (n : Node) (m : Message) : m.Term ≤ (stepUp n m).Term ∧ n.Term ≤ (stepUp n m).Term := by
 unfold stepUp
 split
 ·exact ⟨Int.le_refl _,by show n.Term ≤ m.Term; omega⟩
 ·exact ⟨by omega,Int.le_refl _⟩
theorem recv_right {n : Node} {m : Message} (hok : (recvN n m).2.2 = true) : Right n ∧ MsgRight m ∧ m.To = n.Id ∧ Right (recvN n m).1 ∧ (recvN n m).1.Id = n.Id ∧ ∀ x ∈ (recvN n m).2.1,Told (recvN n m).1 x := by
 unfold recvN at hok ⊢
 by_cases h1 : nodeOk n = false
 ·rw [if_pos h1] at hok
  cases hok
 rw [if_neg h1] at hok ⊢
 by_cases h2 : messageOk m = false
 ·rw [if_pos h2] at hok
  cases hok
 rw [if_neg h2] at hok ⊢
 by_cases h3 : m.To ≠ n.Id
 ·rw [if_pos h3] at hok
  cases hok
 rw [if_neg h3]
 have hn := right_of (by simpa using h1)
 have hm := msg_of (by simpa using h2)
 obtain ⟨b1,b2,b3⟩ := body_right (hn.stepUp hm) hm (stepUp_le n m).1
 exact ⟨hn,hm,Decidable.not_not.1 h3,b1,b2.trans (stepUp_id n m),b3⟩
theorem strOf_size (ns : List Int) : (strOf ns).size = ns.length := by
 have : ∀ (ns : List Int) (r : ByteArray),(ns.foldl (fun r n => r.push (UInt8.ofNat n.toNat)) r).size = r.size + ns.length := by
  intro ns
  induction ns with
  | nil => intro r; rfl
  | cons n ns ih =>
   intro r
   rw [List.foldl_cons,ih,ByteArray.size_push,List.length_cons]
   omega
 have h := this ns ByteArray.empty
 unfold strOf bytesOfRows
 rw [h]
 show 0 + ns.length = ns.length
 omega
def CurOk (b : List Int) (c : TU) : Prop := c.b = b ∧ 0 ≤ c.i
theorem below_cur (N : Nat) {b : List Int} (hl : b.length ≤ 1099511627776) {c : TU} (h : CurOk b c) (k : Int) : ∃ r c',s_l01Below N c k = some (r,c') ∧ 0 ≤ r ∧ (0 < k → r < k) ∧ CurOk b c' := by
 obtain ⟨r,c',e,l,u,_,hb,hi⟩ := below_ok N c k h.2 (by rw [h.1]; exact hl)
 exact ⟨r,c',e,l,u,hb.trans h.1,hi⟩
theorem once_cur (N : Nat) {b : List Int} (hl : b.length ≤ 1099511627776) {c : TU} (h : CurOk b c) (k : Int) : ∃ q c',s_l01Once N c k = some (q,c') ∧ CurOk b c' := by
 obtain ⟨r,c',e,_,_,hc⟩ := below_cur N hl h k
 unfold s_l01Once
 rw [e,bO]
 exact ⟨_,_,rfl,hc⟩
theorem rise_snoc {lo hi y : Int} : ∀ {xs : List Int} {p : Option Int},rise lo hi p xs = true → (∀ x ∈ xs,x < y) → (∀ q,p = some q → q < y) → lo ≤ y ∧ y ≤ hi → rise lo hi p (xs ++ [y]) = true
 | [],p,_,_,hp,hy => by
  rw [List.nil_append,rise_cons]
  simp only [Bool.and_eq_true,decide_eq_true_eq]
  refine ⟨hy,?_,rfl⟩
  cases p with
  | none => rfl
  | some q => exact decide_eq_true (hp q rfl)
 | x :: xs,p,h,hx,hp,hy => by
  rw [List.cons_append,rise_cons]
  rw [rise_cons] at h
  simp only [Bool.and_eq_true,decide_eq_true_eq] at h ⊢
  exact ⟨h.1,h.2.1,rise_snoc h.2.2 (fun z hz => hx z (List.mem_cons_of_mem _ hz)) (fun q hq => by cases hq; exact hx x List.mem_cons_self) hy⟩
theorem conf_l1 (N : Nat) {b : List Int} (hl : b.length ≤ 1099511627776) : ∀ (d f : Nat) (i : Int) (c : TU) (acc : List Int),i + d = 5 → 1 ≤ i → d < f → CurOk b c → rise 1 4 none acc = true → (∀ x ∈ acc,x < i) →
  ∃ c' out,s_l07Conf_l1 N f i c.b c.i c.h acc = some (c'.b,c'.i,c'.h,out) ∧ CurOk b c' ∧ rise 1 4 none out = true := by
 intro d
 induction d with
 | zero =>
  intro f i c acc hd h1 hf hc ha hx
  obtain ⟨f,rfl⟩ : ∃ q,f = q + 1 := ⟨f - 1,by omega⟩
  rw [s_l07Conf_l1,if_neg (by simp; omega)]
  exact ⟨c,acc,rfl,hc,ha⟩
 | succ d ih =>
  intro f i c acc hd h1 hf hc ha hx
  obtain ⟨f,rfl⟩ : ∃ q,f = q + 1 := ⟨f - 1,by omega⟩
  have hal := votes_len ha
  rw [s_l07Conf_l1,if_pos (by simp; omega)]
  simp only [joinP]
  obtain ⟨q,c',e,hc'⟩ := once_cur N hl hc 2
  rw [show (TU.mk c.b c.i c.h) = c from rfl,e,bO,w64_id (n := i + 1) (by omega) (by omega)]
  cases q with
  | true =>
   rw [if_pos rfl,cat_ok (by simp; omega),bO]
   exact ih f (i + 1) c' (acc ++ [i]) (by omega) (by omega) (by omega) hc' (rise_snoc ha hx (fun q hq => by cases hq) (by omega)) (fun x hx' => by
    rcases List.mem_append.1 hx' with h | h
    ·have := hx x h
     omega
    ·simp only [List.mem_singleton] at h
     omega)
  | false =>
   rw [if_neg (by simp)]
   exact ih f (i + 1) c' acc (by omega) (by omega) (by omega) hc' ha (fun x h => by have := hx x h; omega)
theorem conf_cur (N : Nat) (hN : Big N) {b : List Int} (hl : b.length ≤ 1099511627776) {c : TU} (h : CurOk b c) : ∃ cf c',s_l07Conf N c = some (cf,c') ∧ confOk cf = true ∧ CurOk b c' := by
 obtain ⟨c',out,e,hc,hr⟩ := conf_l1 N hl 4 N 1 c [] (by decide) (by decide) (by have := hN; unfold Big at this; omega) h rfl (fun x hx => by cases hx)
 have ho := votes_len hr
 unfold s_l07Conf
 simp only [joinP]
 rw [e,bO]
 simp only
 by_cases h0 : out.length = 0
 ·have : out = [] := List.eq_nil_of_length_eq_zero h0
  subst this
  rw [if_pos (show ((((([] : List Int)).length : Nat) : Int) == (0 : Int)) = true from rfl),cat_ok (by simp),bO]
  exact ⟨[1],c',rfl,by decide,hc⟩
 ·rw [if_neg (show ¬ ((((out.length : Nat) : Int) == (0 : Int)) = true) by rw [beq_iff_eq]; omega)]
  refine ⟨out,c',rfl,?_,hc⟩
  unfold confOk
  rw [hr,decide_eq_true ho,decide_eq_true (by omega)]
  rfl
theorem pick_cur (N : Nat) {b : List Int} (hl : b.length ≤ 1099511627776) {c : TU} (h : CurOk b c) {xs : List ByteArray} (hx : 0 < xs.length) : ∃ t c',s_l01Pick_i1 N c xs = some (t,c') ∧ t ∈ xs ∧ CurOk b c' := by
 obtain ⟨r,c',e,l,u,hc⟩ := below_cur N hl h (xs.length : Int)
 have hr := u (by omega)
 unfold s_l01Pick_i1
 rw [e,bO]
 have hk : r.toNat < xs.length := by omega
 have := at_lt (xs := xs) hk
 rw [Int.toNat_of_nonneg l] at this
 simp only
 rw [this,bO]
 exact ⟨_,_,rfl,List.getElem_mem hk,hc⟩
theorem pickInt_cur (N : Nat) {b : List Int} (hl : b.length ≤ 1099511627776) {c : TU} (h : CurOk b c) {xs : List Int} (hx : 0 < xs.length) : ∃ t c',s_l01PickInt_i1 N c xs = some (t,c') ∧ t ∈ xs ∧ CurOk b c' := by
 obtain ⟨r,c',e,l,u,hc⟩ := below_cur N hl h (xs.length : Int)
 have hr := u (by omega)
 unfold s_l01PickInt_i1
 rw [e,bO]
 have hk : r.toNat < xs.length := by omega
 have := at_lt (xs := xs) hk
 rw [Int.toNat_of_nonneg l] at this
 simp only
 rw [this,bO]
 exact ⟨_,_,rfl,List.getElem_mem hk,hc⟩
theorem ct_r (N : Nat) (c : List Int) : ∀ (xs : List Int) (k : Nat) (acc : List Int),k + xs.length ≤ 1000 → acc.length + xs.length ≤ 1000 → ∃ out,s_ConfText_l1_r N c xs (k : Int) acc = some out ∧ out.length = acc.length + xs.length
 | [],k,acc,_,_ => ⟨acc,rfl,rfl⟩
 | x :: xs,k,acc,h1,h2 => by
  simp only [List.length_cons] at h1 h2
  rw [s_ConfText_l1_r,bO,cat_ok (by simp; omega),bO,w64_succ (by omega)]
  obtain ⟨out,e,ho⟩ := ct_r N c xs (k + 1) (acc ++ [IntKind.wrap .u8 x]) (by omega) (by simp; omega)
  refine ⟨out,e,?_⟩
  rw [ho]
  simp only [List.length_append,List.length_cons,List.length_nil]
  omega
theorem confText_ok (N : Nat) (hN : Big N) (c : List Int) (hc : c.length ≤ 500) : ∃ t q,s_ConfText N c = some (t,q) ∧ t.size ≤ 500 := by
 unfold s_ConfText
 rw [confOk_spec N hN c (by omega),bO]
 cases confOk c with
 | false => exact ⟨_,_,rfl,Nat.zero_le _⟩
 | true =>
  rw [if_neg (by simp)]
  simp only [joinP]
  obtain ⟨out,e,ho⟩ := ct_r N c c 0 [] (by omega) (by simp; omega)
  rw [s_ConfText_l1_eq c (by omega) (by have := hN; unfold Big at this; omega),show (0 : Int) = ((0 : Nat) : Int) from rfl,e,bO]
  refine ⟨_,_,rfl,?_⟩
  rw [strOf_size,ho]
  simp only [List.length_nil]
  omega
theorem quo_lo (a : Int) (ha : 0 ≤ a) (ha2 : a ≤ 1000000000000) : intD .quo .i64 a 128 = some (a / 128) := by
 unfold intD
 simp only
 rw [if_neg (by decide)]
 have : Int.tdiv a 128 = a / 128 := Int.tdiv_eq_ediv_of_nonneg ha
 rw [this]
 congr 1
 exact w64_id (by omega) (by omega)
theorem var_l1 (N : Nat) : ∀ (k f : Nat) (x : Int) (acc : List Int),0 ≤ x → x < 128 ^ (k + 1) → k ≤ 4 → k < f → acc.length + k ≤ 1000 → ∃ y ys,s_l01Var_l1 N f x acc = some (y,ys) ∧ ys.length ≤ acc.length + k := by
 intro k
 induction k with
 | zero =>
  intro f x acc h0 h1 hk hf ha
  obtain ⟨f,rfl⟩ : ∃ q,f = q + 1 := ⟨f - 1,by omega⟩
  rw [s_l01Var_l1,if_neg (by simp at h1 ⊢; omega)]
  exact ⟨_,_,rfl,by omega⟩
 | succ k ih =>
  intro f x acc h0 h1 hk hf ha
  obtain ⟨f,rfl⟩ : ∃ q,f = q + 1 := ⟨f - 1,by omega⟩
  have hb : (128 : Int) ^ (k + 1 + 1) ≤ 1000000000000 := by
   have : k = 0 ∨ k = 1 ∨ k = 2 ∨ k = 3 := by omega
   rcases this with rfl | rfl | rfl | rfl <;> decide
  rw [s_l01Var_l1]
  by_cases hx : x > 127
  ·rw [if_pos (by simpa using hx)]
   obtain ⟨r,e,_,_⟩ := rem_lo x h0 128 (by decide)
   rw [e,bO,cat_ok (by simp; omega),bO,quo_lo x h0 (by omega),bO]
   have hlt : x / 128 < 128 ^ (k + 1) := by
    rw [Int.pow_succ] at h1
    exact Int.ediv_lt_of_lt_mul (by decide) h1
   obtain ⟨y,ys,e2,h2⟩ := ih f (x / 128) (acc ++ [IntKind.wrap .u8 (w64 (r + 128))]) (by omega) hlt (by omega) (by omega) (by simp; omega)
   refine ⟨y,ys,e2,?_⟩
   simp only [List.length_append,List.length_cons,List.length_nil] at h2
   omega
  ·rw [if_neg (by simpa using hx)]
   exact ⟨_,_,rfl,by omega⟩
theorem var_ok (N : Nat) (hN : Big N) (x : Int) (h0 : 0 ≤ x) (h1 : x ≤ 200000) : ∃ t,s_l01Var N x = some t ∧ t.size ≤ 10 := by
 have h3 : (128 : Int) ^ (2 + 1) = 2097152 := by decide
 obtain ⟨y,ys,e,h⟩ := var_l1 N 2 N x [] h0 (by rw [h3]; omega) (by decide) (by have := hN; unfold Big at this; omega) (by simp)
 simp only [List.length_nil] at h
 unfold s_l01Var
 simp only [joinP]
 rw [e,bO,cat_ok (by simp; omega),bO]
 refine ⟨_,rfl,?_⟩
 rw [strOf_size]
 simp only [List.length_append,List.length_cons,List.length_nil]
 omega
theorem short_ok (N : Nat) (hN : Big N) (s : ByteArray) (h : s.size ≤ 100) : ∃ t,s_l05Short N s = some t ∧ t.size ≤ 110 := by
 obtain ⟨t,e,ht⟩ := var_ok N hN (s.size : Int) (by omega) (by omega)
 unfold s_l05Short
 rw [e,bO,scat_ok (by omega),bO]
 exact ⟨_,rfl,by rw [ByteArray.size_append]; omega⟩
theorem cmdOk_total (N : Nat) (x : Command) : ∃ q,s_CommandOk N x = some q := by
 have h : (s_CommandOk N x).isSome = true := by
  unfold s_CommandOk
  simp only [in_eq,bO]
  repeat' split
  all_goals rfl
 exact Option.isSome_iff_exists.1 h
structure CmdSmall (x : Command) : Prop where
 session : 0 ≤ x.Session ∧ x.Session ≤ 1000
 seq : 0 ≤ x.Seq ∧ x.Seq ≤ 1000
 key : x.Key.size ≤ 10
 value : x.Value.size ≤ 10
 old : x.Old.size ≤ 10
theorem cmdText_ok (N : Nat) (hN : Big N) (x : Command) (h : CmdSmall x) : ∃ t q,s_CommandText N x = some (t,q) ∧ t.size ≤ 1000 := by
 obtain ⟨q,e⟩ := cmdOk_total N x
 unfold s_CommandText
 rw [e,bO]
 cases q with
 | false => exact ⟨_,_,rfl,Nat.zero_le _⟩
 | true =>
  rw [if_neg (by simp)]
  obtain ⟨t1,e1,h1⟩ := var_ok N hN x.Session h.session.1 (by have := h.session; omega)
  obtain ⟨t2,e2,h2⟩ := var_ok N hN x.Seq h.seq.1 (by have := h.seq; omega)
  obtain ⟨t3,e3,h3⟩ := short_ok N hN x.Key (by have := h.key; omega)
  obtain ⟨t4,e4,h4⟩ := short_ok N hN x.Value (by have := h.value; omega)
  obtain ⟨t5,e5,h5⟩ := short_ok N hN x.Old (by have := h.old; omega)
  have h0 : (strOf [IntKind.wrap .u8 x.Op]).size = 1 := by rw [strOf_size]; rfl
  simp only [e1,e2,e3,e4,e5,bO]
  rw [scat_ok (by omega)]
  simp only [bO]
  rw [scat_ok (by rw [ByteArray.size_append]; omega)]
  simp only [bO]
  rw [scat_ok (by rw [ByteArray.size_append,ByteArray.size_append]; omega)]
  simp only [bO]
  rw [scat_ok (by rw [ByteArray.size_append,ByteArray.size_append,ByteArray.size_append]; omega)]
  simp only [bO]
  rw [scat_ok (by rw [ByteArray.size_append,ByteArray.size_append,ByteArray.size_append,ByteArray.size_append]; omega)]
  refine ⟨_,_,rfl,?_⟩
  rw [ByteArray.size_append,ByteArray.size_append,ByteArray.size_append,ByteArray.size_append,ByteArray.size_append]
  omega
theorem small_text {xs : List ByteArray} (h : xs.all (fun t => decide (t.size ≤ 10)) = true) {t : ByteArray} (ht : t ∈ xs) : t.size ≤ 10 := by
 simpa using List.all_eq_true.1 h t ht
theorem z1000 : (0 : Int) ≤ 0 ∧ (0 : Int) ≤ 1000 := by omega
theorem l15Right_cur (N : Nat) {b : List Int} (hl : b.length ≤ 1099511627776) {c : TU} (h : CurOk b c) : ∃ x c',s_l15Right N c = some (x,c') ∧ CmdSmall x ∧ CurOk b c' := by
 have hz : (⟨#[]⟩ : ByteArray).size ≤ 10 := by decide
 obtain ⟨r1,c1,e1,l1,u1,h1⟩ := below_cur N hl h 5
 have u1' := u1 (by decide)
 unfold s_l15Right
 rw [e1,bO]
 simp only [joinP]
 rw [w64_id (n := 1 + r1) (by omega) (by omega)]
 by_cases k1 : 1 + r1 = 1
 ·rw [if_pos (by simpa using k1)]
  exact ⟨_,_,rfl,⟨z1000,z1000,hz,hz,hz⟩,h1⟩
 rw [if_neg (by simpa using k1)]
 obtain ⟨r2,c2,e2,l2,u2,h2⟩ := below_cur N hl h1 4
 obtain ⟨r3,c3,e3,l3,u3,h3⟩ := below_cur N hl h2 3
 have u2' := u2 (by decide)
 have u3' := u3 (by decide)
 obtain ⟨t4,c4,e4,m4,h4⟩ := pick_cur N hl h3 (xs := [(⟨#[97]⟩ : ByteArray),(⟨#[98]⟩ : ByteArray),(⟨#[99]⟩ : ByteArray)]) (by decide)
 have s4 := small_text (by decide) m4
 simp only [e2,e3,e4,bO]
 rw [w64_id (n := 1 + r2) (by omega) (by omega),w64_id (n := 1 + r3) (by omega) (by omega)]
 obtain ⟨t5,c5,e5,m5,h5⟩ := pick_cur N hl h4 (xs := [(⟨#[]⟩ : ByteArray),(⟨#[49]⟩ : ByteArray),(⟨#[50]⟩ : ByteArray),(⟨#[116,104,114,101,101]⟩ : ByteArray)]) (by decide)
 obtain ⟨t6,c6,e6,m6,h6⟩ := pick_cur N hl h5 (xs := [(⟨#[]⟩ : ByteArray),(⟨#[49]⟩ : ByteArray),(⟨#[50]⟩ : ByteArray),(⟨#[116,104,114,101,101]⟩ : ByteArray)]) (by decide)
 have s5 := small_text (by decide) m5
 have s6 := small_text (by decide) m6
 by_cases k3 : 1 + r1 = 3
 ·rw [if_pos (by simpa using k3),e5,bO]
  exact ⟨_,_,rfl,⟨by simp only; omega,by simp only; omega,s4,s5,hz⟩,h5⟩
 rw [if_neg (by simpa using k3)]
 by_cases k5 : 1 + r1 = 5
 ·rw [if_pos (by simpa using k5),e5,bO,e6,bO]
  exact ⟨_,_,rfl,⟨by simp only; omega,by simp only; omega,s4,s5,s6⟩,h6⟩
 ·rw [if_neg (by simpa using k5)]
  exact ⟨_,_,rfl,⟨by simp only; omega,by simp only; omega,s4,hz,hz⟩,h4⟩
theorem l11Right_cur (N : Nat) (hN : Big N) {b : List Int} (hl : b.length ≤ 1099511627776) {c : TU} (h : CurOk b c) (T : Int) : ∃ e c',s_l11Right N c T = some (e,c') ∧ e.Data.size ≤ 1000 ∧ CurOk b c' := by
 obtain ⟨k,c1,e1,m1,h1⟩ := pickInt_cur N hl h (xs := [1,2,3,3,3]) (by decide)
 unfold s_l11Right
 rw [e1,bO]
 simp only [joinP]
 by_cases k2 : k = 2
 ·rw [if_pos (by simpa using k2)]
  obtain ⟨cf,c2,e2,hc,h2⟩ := conf_cur N hN hl h1
  have hcl := confOk_len hc
  obtain ⟨t,q,e3,h3⟩ := confText_ok N hN cf (by omega)
  rw [e2,bO,e3,bO]
  exact ⟨_,_,rfl,by simp only; omega,h2⟩
 rw [if_neg (by simpa using k2)]
 by_cases k3 : k = 3
 ·rw [if_pos (by simpa using k3)]
  obtain ⟨x,c2,e2,hx,h2⟩ := l15Right_cur N hl h1
  obtain ⟨t,q,e3,h3⟩ := cmdText_ok N hN x hx
  rw [e2,bO,e3,bO]
  exact ⟨_,_,rfl,h3,h2⟩
 ·rw [if_neg (by simpa using k3)]
  exact ⟨_,_,rfl,Nat.zero_le _,h1⟩
def InNet (m : Message) : Prop := (1 ≤ m.To ∧ m.To ≤ 4) ∧ totMessage m ≤ 20000 ∧ m.Kind ≠ 6
theorem take_l1 (N : Nat) (hN : Big N) (told : List Message) (ht : ∀ m ∈ told,InNet m) (htl : told.length ≤ 1000) : ∀ (d f k : Nat) (net : List Message),told.length = k + d → d < f → net.length ≤ 24 → (∀ m ∈ net,InNet m) →
  ∃ out,s_l16Take_i1_l1 N told f (k : Int) net = some out ∧ out.length ≤ 24 ∧ ∀ m ∈ out,InNet m := by
 intro d
 induction d with
 | zero =>
  intro f k net hd hf hl hn
  obtain ⟨f,rfl⟩ : ∃ q,f = q + 1 := ⟨f - 1,by omega⟩
  rw [s_l16Take_i1_l1,if_neg (by simp; omega)]
  exact ⟨net,rfl,hl,hn⟩
 | succ d ih =>
  intro f k net hd hf hl hn
  obtain ⟨f,rfl⟩ : ∃ q,f = q + 1 := ⟨f - 1,by omega⟩
  have hk : k < told.length := by omega
  rw [s_l16Take_i1_l1,if_pos (by simp; omega)]
  simp only [joinP]
  rw [w64_succ (by omega)]
  by_cases h24 : net.length < 24
  ·rw [if_pos (by simp; omega),at_lt hk,bO]
   by_cases hk5 : told[k].Kind = 5
   ·rw [if_neg (by simpa using hk5)]
    exact ih f (k + 1) net (by omega) (by omega) hl hn
   ·rw [if_pos (by simpa using hk5),bO,cat_ok (by simp; omega),bO]
    refine ih f (k + 1) (net ++ [told[k]]) (by omega) (by omega) (by simp; omega) (fun m hm => ?_)
    rcases List.mem_append.1 hm with h | h
    ·exact hn m h
    ·simp only [List.mem_singleton] at h
     subst h
     exact ht _ (List.getElem_mem hk)
  ·rw [if_neg (by simp; omega)]
   exact ih f (k + 1) net (by omega) (by omega) hl hn
def AllRight (ns : List Node) : Prop := ns.length = 4 ∧ ∀ (k : Nat) (n : Node),ns[k]? = some n → Right n ∧ n.Id = (k : Int) + 1
theorem AllRight.at {ns : List Node} (h : AllRight ns) {i : Int} (h0 : 0 ≤ i) (h1 : i < 4) : ∃ n,at? ns i = some n ∧ ns[i.toNat]? = some n ∧ Right n ∧ n.Id = i + 1 := by
 have hk : i.toNat < ns.length := by rw [h.1]; omega
 have e := at_lt (xs := ns) hk
 rw [Int.toNat_of_nonneg h0] at e
 have e2 : ns[i.toNat]? = some ns[i.toNat] := List.getElem?_eq_getElem hk
 obtain ⟨hr,hi⟩ := h.2 _ _ e2
 exact ⟨_,e,e2,hr,by rw [hi]; omega⟩
theorem AllRight.set {ns : List Node} (h : AllRight ns) {i : Int} (h0 : 0 ≤ i) (h1 : i < 4) {n : Node} (hr : Right n) (hi : n.Id = i + 1) : AllRight (ns.set i.toNat n) := by
 refine ⟨by rw [List.length_set]; exact h.1,fun k x hx => ?_⟩
 rw [List.getElem?_set] at hx
 split at hx
 ·rename_i e
  split at hx
  ·simp only [Option.some.injEq] at hx
   subst hx
   subst e
   exact ⟨hr,by rw [hi]; omega⟩
  ·cases hx
 ·exact h.2 k x hx
theorem take_ok2 (N : Nat) (hN : Big N) {ns : List Node} {net : List Message} (h : AllRight ns) (hl : net.length ≤ 24) (hn : ∀ m ∈ net,InNet m) {i : Int} (h0 : 0 ≤ i) (h1 : i < 4) {n : Node} (hr : Right n) (hi : n.Id = i + 1) {told : List Message} (ht : ∀ m ∈ told,InNet m) (htl : told.length ≤ 1000) :
  ∃ ns' net',s_l16Take_i1 N ⟨ns,net⟩ i n told = some ⟨ns',net'⟩ ∧ AllRight ns' ∧ net'.length ≤ 24 ∧ ∀ m ∈ net',InNet m := by
 obtain ⟨x,e,_,_,_⟩ := h.at h0 h1
 obtain ⟨out,e2,hol,ho⟩ := take_l1 N hN told ht htl told.length N 0 net (by omega) (by have := hN; unfold Big at this; omega) hl hn
 unfold s_l16Take_i1
 simp only
 rw [e,bO,show (0 : Int) = ((0 : Nat) : Int) from rfl,e2,bO]
 exact ⟨_,_,rfl,h.set h0 h1 hr hi,hol,ho⟩
theorem told_len_tick (n : Node) (l : Int) (h : Right n) : (tickN n l).2.1.length ≤ 1000 := by
 unfold tickN
 repeat' split
 all_goals try exact Nat.zero_le _
 ·simp only [List.length_map]
  have := h.plen
  omega
 ·rename_i h1 h2 h3 h4 h5 h6 h7
  have hl : 1 ≤ l ∧ l ≤ 20 := by simpa using h2
  have := (h.cand hl h3 h6).leadN.plen
  simp only [List.length_map]
  omega
 ·have h1 := others_len (confOf n) n.Id
  have h2 := confOk_len h.cof
  simp only [List.length_map]
  omega
theorem told_len_prop (n : Node) (k : Int) (t : ByteArray) (h : Right n) : (propN n k t).2.1.length ≤ 1000 := by
 unfold propN
 repeat' split
 all_goals try exact Nat.zero_le _
 simp only [List.length_map]
 have := (propA_small (n := n) (e := ⟨n.Term,k,t⟩) h.clen).2.2
 omega
theorem told_len_body (n : Node) (m : Message) (h : Right n) (hm : MsgRight m) : (recvBody n m).2.length ≤ 1000 := by
 unfold recvBody
 split
 ·exact Nat.le_of_ble_eq_true rfl
 split
 ·unfold tellVoteN
  repeat' split
  all_goals try exact Nat.zero_le _
  rename_i hr _
  have hr1 : n.Role = 1 := Decidable.not_not.1 hr
  have hw : Right (withVotes n (newVotes n m)) := ⟨h.id,h.conf,h.log,h.term,h.vote,h.lead,h.role,h.com,h.limit,h.clock,newVotes_rise n m,(fun e => absurd hr1 e),(fun e => by have e2 : n.Role = 2 := e; omega),h.alone⟩
  have := hw.leadN.plen
  simp only [List.length_map]
  omega
 split
 ·unfold askAppendN appN
  repeat' split
  all_goals exact Nat.le_of_ble_eq_true rfl
 split
 ·unfold replyN replyTo
  repeat' split
  all_goals first | exact Nat.zero_le _ | exact Nat.le_of_ble_eq_true rfl | (simp only; split <;> exact Nat.le_of_ble_eq_true rfl)
 ·unfold installN
  split <;> exact Nat.zero_le _
theorem told_len_recv (n : Node) (m : Message) : (recvN n m).2.1.length ≤ 1000 := by
 unfold recvN
 split
 ·exact Nat.zero_le _
 rename_i h1
 split
 ·exact Nat.zero_le _
 rename_i h2
 split
 ·exact Nat.zero_le _
 have hn := right_of (n := n) (by simpa using h1)
 have hm := msg_of (m := m) (by simpa using h2)
 exact told_len_body _ m (hn.stepUp hm) hm
theorem new_right {i : Int} {c : List Int} (hi : 1 ≤ i ∧ i ≤ 4) (hc : confOk c = true) {l : Int} (hl : 1 ≤ l ∧ l ≤ 20) : Right ⟨i,0,0,0,0,c,⟨0,0,[]⟩,0,0,l,[],[]⟩ :=
 ⟨hi,hc,rfl,(show (0 : Int) ≤ 0 ∧ (0 : Int) ≤ 100000 by omega),z4,z4,z2,(show (0 : Int) ≤ 0 ∧ (0 : Int) ≤ 0 by omega),hl,z20,rfl,(fun _ => rfl),(fun e => absurd (show (0 : Int) = 2 from e) (by decide)),(fun _ => rfl)⟩
theorem play_l1 (N : Nat) (hN : Big N) {b : List Int} (hl : b.length ≤ 1099511627776) (v : List Int × Int × Int × List Int) (hv : confOk v.2.2.2 = true) : ∀ (d f : Nat) (k : Nat) (c : TU) (ns : List Node),k + d = 4 → d < f → CurOk b c → ns.length = k → (∀ (j : Nat) (n : Node),ns[j]? = some n → Right n ∧ n.Id = (j : Int) + 1) →
  ∃ c' out,s_l16Play_l1 N v f ((k : Int) + 1) c.b c.i c.h ns = some (c'.b,c'.i,c'.h,out) ∧ CurOk b c' ∧ AllRight out := by
 intro d
 induction d with
 | zero =>
  intro f k c ns hd hf hc hn hr
  obtain ⟨f,rfl⟩ : ∃ q,f = q + 1 := ⟨f - 1,by omega⟩
  rw [s_l16Play_l1,if_neg (by simp; omega)]
  exact ⟨c,ns,rfl,hc,by omega,hr⟩
 | succ d ih =>
  intro f k c ns hd hf hc hn hr
  obtain ⟨f,rfl⟩ : ∃ q,f = q + 1 := ⟨f - 1,by omega⟩
  have hcl := confOk_len hv
  have h20 := new_right (i := (k : Int) + 1) (c := v.2.2.2) (by omega) hv (l := 20) (by omega)
  have hnew : nodeNew ((k : Int) + 1) v.2.2.2 = (newNode ((k : Int) + 1) v.2.2.2,true) := if_pos h20.ok
  obtain ⟨r,c',e,l,u,hc'⟩ := below_cur N hl hc 4
  have u' := u (by decide)
  rw [s_l16Play_l1,if_pos (by simp; omega),new_spec N hN _ _ (by omega),bO,hnew,show (TU.mk c.b c.i c.h) = c from rfl,e,bO,cat_ok (by simp; omega),bO,w64_id (n := 1 + r) (by omega) (by omega),w64_id (n := (k : Int) + 1 + 1) (by omega) (by omega),show (k : Int) + 1 + 1 = ((k + 1 : Nat) : Int) + 1 by omega]
  refine ih f (k + 1) c' _ (by omega) (by omega) hc' (by simp; omega) (fun j n hj => ?_)
  by_cases hjk : j < ns.length
  ·rw [List.getElem?_append_left hjk] at hj
   exact hr j n hj
  ·rw [List.getElem?_append_right (by omega)] at hj
   have hj0 : j - ns.length = 0 := by
    have := (List.getElem?_eq_some_iff.1 hj).1
    simp only [List.length_cons,List.length_nil] at this
    omega
   rw [hj0] at hj
   simp only [List.getElem?_cons_zero,Option.some.injEq] at hj
   subst hj
   exact ⟨new_right (i := (k : Int) + 1) (l := 1 + r) (by omega) hv (by omega),by show (k : Int) + 1 = (j : Int) + 1; omega⟩
theorem play_l3 (N : Nat) {ns : List Node} (h : AllRight ns) : ∀ (d f : Nat) (k : Nat) (acc : Int),k + d = 4 → d < f → 0 ≤ acc → acc < 4 → ∃ v,s_l16Play_l3 N ns f acc (k : Int) = some v ∧ 0 ≤ v ∧ v < 4 := by
 intro d
 induction d with
 | zero =>
  intro f k acc hd hf h0 h1
  obtain ⟨f,rfl⟩ : ∃ q,f = q + 1 := ⟨f - 1,by omega⟩
  rw [s_l16Play_l3,if_neg (by simp; omega)]
  exact ⟨acc,rfl,h0,h1⟩
 | succ d ih =>
  intro f k acc hd hf h0 h1
  obtain ⟨f,rfl⟩ : ∃ q,f = q + 1 := ⟨f - 1,by omega⟩
  obtain ⟨n,e,_,_,_⟩ := h.at (i := (k : Int)) (by omega) (by omega)
  rw [s_l16Play_l3,if_pos (by simp; omega)]
  simp only [joinP]
  rw [e,bO,w64_succ (by omega)]
  by_cases hr : n.Role = 2
  ·rw [if_pos (by simpa using hr)]
   exact ih f (k + 1) (k : Int) (by omega) (by omega) (by omega) (by omega)
  ·rw [if_neg (by simpa using hr)]
   exact ih f (k + 1) acc (by omega) (by omega) h0 h1
theorem inNet {n : Node} {ms : List Message} (h : ∀ m ∈ ms,Told n m) : ∀ m ∈ ms,InNet m := fun m hm => h m hm
def PlayR (b : List Int) (r : Option (List Int × Int × Int × List Node × List Message)) : Prop := ∃ c' ns' net',r = some (c'.b,c'.i,c'.h,ns',net') ∧ CurOk b c' ∧ AllRight ns' ∧ net'.length ≤ 24 ∧ ∀ m ∈ net',InNet m
theorem play_l2 (N : Nat) (hN : Big N) {b : List Int} (hl : b.length ≤ 1099511627776) (x : Int) (hx : x ≤ 1000) : ∀ (d f : Nat) (i : Int) (c : TU) (ns : List Node) (net : List Message),x ≤ i + d → 0 ≤ i → i ≤ 1000 → d < f → CurOk b c → AllRight ns → net.length ≤ 24 → (∀ m ∈ net,InNet m) →
  PlayR b (s_l16Play_l2 N x f i c.b c.i c.h ns net) := by
 intro d
 induction d with
 | zero =>
  intro f i c ns net hd h0 h1 hf hc hr hnl hn
  obtain ⟨f,rfl⟩ : ∃ q,f = q + 1 := ⟨f - 1,by omega⟩
  rw [s_l16Play_l2,if_neg (by simp; omega)]
  exact ⟨c,ns,net,rfl,hc,hr,hnl,hn⟩
 | succ d ih =>
  intro f i c ns net hd h0 h1 hf hc hr hnl hn
  obtain ⟨f,rfl⟩ : ∃ q,f = q + 1 := ⟨f - 1,by omega⟩
  rw [s_l16Play_l2]
  by_cases hle : x ≤ i
  ·rw [if_neg (by simp; omega)]
   exact ⟨c,ns,net,rfl,hc,hr,hnl,hn⟩
  rw [if_pos (by simp; omega)]
  simp only [joinP]
  rw [w64_id (n := i + 1) (by omega) (by omega)]
  have next : ∀ (c' : TU) (ns' : List Node) (net' : List Message),CurOk b c' → AllRight ns' → net'.length ≤ 24 → (∀ m ∈ net',InNet m) → PlayR b (s_l16Play_l2 N x f (i + 1) c'.b c'.i c'.h ns' net') := fun c' ns' net' a1 a2 a3 a4 => ih f (i + 1) c' ns' net' (by omega) (by omega) (by omega) (by omega) a1 a2 a3 a4
  obtain ⟨r1,c1,e1,l1,u1,hc1⟩ := below_cur N hl hc 4
  have u1' := u1 (by decide)
  obtain ⟨r2,c2,e2,l2,u2,hc2⟩ := below_cur N hl hc1 9
  rw [show (TU.mk c.b c.i c.h) = c from rfl,e1,bO,e2,bO]
  simp only
  obtain ⟨n,en,en2,hrn,hid⟩ := hr.at l1 u1'
  have htn := hrn.tot
  have tick : PlayR b ((s_l01Below N c2 (6 : Int)).bind fun y => (s_Tick N n (w64 ((1 : Int) + y.1))).bind fun z =>
    if z.2.2 = true then (s_l16Take_i1 N (TC.mk ns net) r1 z.1 z.2.1).bind fun w => s_l16Play_l2 N x f (i + 1) y.2.b y.2.i y.2.h w.nodes w.net
    else s_l16Play_l2 N x f (i + 1) y.2.b y.2.i y.2.h ns net) := by
   obtain ⟨r3,c3,e3,l3,u3,hc3⟩ := below_cur N hl hc2 6
   have u3' := u3 (by decide)
   rw [e3,bO]
   simp only
   rw [w64_id (n := 1 + r3) (by omega) (by omega),tick_spec N hN n (1 + r3) (by omega),bO]
   by_cases hok : (tickN n (1 + r3)).2.2 = true
   ·obtain ⟨q1,q2,q3⟩ := tick_right hrn hok
    obtain ⟨ns',net',et,t1,t2,t3⟩ := take_ok2 N hN hr hnl hn l1 u1' q1 (q2.trans hid) (inNet q3) (told_len_tick n _ hrn)
    rw [if_pos hok,et,bO]
    exact next c3 ns' net' hc3 t1 t2 t3
   ·rw [if_neg hok]
    exact next c3 ns net hc3 hr hnl hn
  by_cases k0 : r2 = 0
  ·rw [if_pos (by simpa using k0),en,bO]
   exact tick
  rw [if_neg (by simpa using k0)]
  by_cases k1 : r2 = 1
  ·rw [if_pos (by simpa using k1),en,bO]
   exact tick
  rw [if_neg (by simpa using k1)]
  by_cases k2 : r2 = 2
  ·rw [if_pos (by simpa using k2)]
   obtain ⟨v,ev,v0,v1⟩ := play_l3 N hr 4 N 0 r1 (by decide) (by have := hN; unfold Big at this; omega) l1 u1'
   obtain ⟨n2,en2',_,hrn2,hid2⟩ := hr.at v0 v1
   have htn2 := hrn2.tot
   obtain ⟨e,c3,e3,hd3,hc3⟩ := l11Right_cur N hN hl hc2 n2.Term
   have ev' : s_l16Play_l3 N ns N r1 (0 : Int) = some v := ev
   rw [ev',bO,en2',bO,e3,bO,bO]
   simp only
   rw [propose_spec N hN n2 e.Kind e.Data (by omega) (by omega),bO]
   by_cases hok : (propN n2 e.Kind e.Data).2.2.2 = true
   ·obtain ⟨q1,q2,q3⟩ := propose_right hrn2 hok
    obtain ⟨ns',net',et,t1,t2,t3⟩ := take_ok2 N hN hr hnl hn v0 v1 q1 (q2.trans hid2) (inNet q3) (told_len_prop n2 _ _ hrn2)
    rw [if_pos hok,et,bO]
    exact next c3 ns' net' hc3 t1 t2 t3
   ·rw [if_neg hok]
    exact next c3 ns net hc3 hr hnl hn
  rw [if_neg (by simpa using k2)]
  by_cases k3 : r2 = 3
  ·rw [if_pos (by simpa using k3)]
   obtain ⟨q,c3,e3,hc3⟩ := once_cur N hl hc2 3
   rw [e3,bO]
   cases q with
   | true =>
    rw [if_pos rfl,en,bO,bO]
    obtain ⟨r4,c4,e4,l4,u4,hc4⟩ := below_cur N hl hc3 2
    have u4' := u4 (by decide)
    simp only
    rw [e4,bO]
    simp only
    have hco := hrn.com
    have hen := hrn.end_in
    have hst := (logOk_at hrn.log).1
    rw [w64_id (n := n.Commit - r4) (by omega) (by omega),settle_spec N hN n _ (by omega) (wi_of (by omega) (by omega)),bO]
    by_cases hok : (settle n (n.Commit - r4)).2 = true
    ·rw [if_pos hok,bO]
     have hin : n.Log.Start ≤ n.Commit - r4 ∧ n.Commit - r4 ≤ n.Commit := by
      by_cases hx2 : n.Log.Start ≤ n.Commit - r4 ∧ n.Commit - r4 ≤ n.Commit
      ·exact hx2
      ·unfold settle at hok
       rw [if_neg (by simp [hx2])] at hok
       cases hok
     obtain ⟨_,q1,q2,_⟩ := settle_right hrn hin
     exact next c4 _ net hc4 (hr.set l1 u1' q1 (q2.trans hid)) hnl hn
    ·rw [if_neg hok]
     exact next c4 ns net hc4 hr hnl hn
   | false =>
    rw [if_neg (by simp)]
    exact next c3 ns net hc3 hr hnl hn
  rw [if_neg (by simpa using k3)]
  by_cases kn : net.length > 0
  ·rw [if_pos (by simp; omega)]
   obtain ⟨r3,c3,e3,l3,u3,hc3⟩ := below_cur N hl hc2 (net.length : Int)
   have u3' := u3 (by omega)
   have hk : r3.toNat < net.length := by omega
   have em : at? net r3 = some net[r3.toNat] := by
    have := at_lt (xs := net) hk
    rwa [Int.toNat_of_nonneg l3] at this
   rw [e3,bO]
   simp only
   rw [em,bO]
   obtain ⟨hto,htm⟩ := hn _ (List.getElem_mem hk)
   generalize net[r3.toNat] = m at hto htm
   obtain ⟨n2,en2',_,hrn2,hid2⟩ := hr.at (i := m.To - 1) (by omega) (by omega)
   have htn2 := hrn2.tot
   have rcv : ∀ (c' : TU) (net2 : List Message),CurOk b c' → net2.length ≤ 24 → (∀ m ∈ net2,InNet m) → PlayR b ((at? ns (w64 (m.To - (1 : Int)))).bind fun y => (s_Receive N y m).bind fun z =>
     if z.2.2 = true then (s_l16Take_i1 N (TC.mk ns net2) (w64 (m.To - (1 : Int))) z.1 z.2.1).bind fun w => s_l16Play_l2 N x f (i + 1) c'.b c'.i c'.h w.nodes w.net
     else s_l16Play_l2 N x f (i + 1) c'.b c'.i c'.h ns net2) := by
    intro c' net2 hc' hnl2 hn2
    rw [w64_id (n := m.To - 1) (by omega) (by omega),en2',bO,receive_spec N hN n2 m (by omega) (by omega),bO]
    by_cases hok : (recvN n2 m).2.2 = true
    ·obtain ⟨_,_,_,q1,q2,q3⟩ := recv_right hok
     obtain ⟨ns',net',et,t1,t2,t3⟩ := take_ok2 N hN hr hnl2 hn2 (i := m.To - 1) (by omega) (by omega) q1 (q2.trans hid2) (inNet q3) (told_len_recv n2 m)
     rw [if_pos hok,et,bO]
     exact next c' ns' net' hc' t1 t2 t3
    ·rw [if_neg hok]
     exact next c' ns net2 hc' hr hnl2 hn2
   obtain ⟨q,c4,e4,hc4⟩ := once_cur N hl hc3 8
   rw [e4,bO]
   cases q with
   | true =>
    rw [if_neg (by simp)]
    exact rcv c4 net hc4 hnl hn
   | false =>
    have htk : take? net r3 = some (net.take r3.toNat) := by
     unfold take?
     rw [if_pos (by omega)]
    have hdr : drop? net (r3 + 1) = some (net.drop (r3 + 1).toNat) := by
     unfold drop?
     rw [if_pos (by omega)]
    rw [if_pos (by simp),htk,bO,cat_ok (by simp; omega),bO,w64_id (n := r3 + 1) (by omega) (by omega),hdr,bO,cat_ok (by simp only [List.nil_append,List.length_take,List.length_drop]; omega),bO]
    refine rcv c4 _ hc4 ?_ (fun z hz => ?_)
    ·simp only [List.nil_append,List.length_append,List.length_take,List.length_drop]
     omega
    ·rcases List.mem_append.1 hz with hz | hz
     ·exact hn z (List.mem_of_mem_take (by simpa using hz))
     ·exact hn z (List.mem_of_mem_drop (List.mem_of_mem_take hz))
  ·rw [if_neg (show ¬ (decide (((net.length : Nat) : Int) > (0 : Int)) = true) by rw [decide_eq_true_eq]; omega)]
   exact next c2 ns net hc2 hr hnl hn
theorem play_ok (N : Nat) (hN : Big N) {b : List Int} (hl : b.length ≤ 1099511627776) {c : TU} (h : CurOk b c) (x : Int) (hx : x ≤ 1000) : ∃ ns net c',s_l16Play N c x = some (⟨ns,net⟩,c') ∧ CurOk b c' ∧ AllRight ns ∧ net.length ≤ 24 ∧ ∀ m ∈ net,InNet m := by
 have key : ∀ (c1 : TU) (cf : List Int),CurOk b c1 → confOk cf = true → ∃ ns net c',((s_l16Play_l1 N (c1.b,c1.i,c1.h,cf) N (1 : Int) c1.b c1.i c1.h ([] : (List Node))).bind fun v_1827 =>
   (s_l16Play_l2 N x N (0 : Int) v_1827.1 v_1827.2.1 v_1827.2.2.1 v_1827.2.2.2 ([] : (List Message))).bind fun v_2987 =>
   some ((TC.mk v_2987.2.2.2.1 v_2987.2.2.2.2),(TU.mk v_2987.1 v_2987.2.1 v_2987.2.2.1))) = some (⟨ns,net⟩,c') ∧ CurOk b c' ∧ AllRight ns ∧ net.length ≤ 24 ∧ ∀ m ∈ net,InNet m := by
  intro c1 cf hc hcf
  obtain ⟨c2,ns,e1,hc2,hr⟩ := play_l1 N hN hl (c1.b,c1.i,c1.h,cf) hcf 4 N 0 c1 [] (by decide) (by have := hN; unfold Big at this; omega) hc rfl (fun j n hj => by simp at hj)
  obtain ⟨c3,ns',net',e2,hc3,hr3,hl3,hn3⟩ := play_l2 N hN hl x hx x.toNat N 0 c2 ns [] (by omega) (by omega) (by omega) (by have := hN; unfold Big at this; omega) hc2 hr (Nat.zero_le _) (fun m hm => by cases hm)
  have e1' : s_l16Play_l1 N (c1.b,c1.i,c1.h,cf) N (1 : Int) c1.b c1.i c1.h ([] : (List Node)) = some (c2.b,c2.i,c2.h,ns) := e1
  rw [e1',bO]
  simp only
  rw [e2,bO]
  exact ⟨ns',net',c3,rfl,hc3,hr3,hl3,hn3⟩
 obtain ⟨q,c1,e,hc1⟩ := once_cur N hl h 3
 unfold s_l16Play
 simp only [joinP]
 rw [e,bO]
 cases q with
 | true =>
  obtain ⟨cf,c2,e2,hcf,hc2⟩ := conf_cur N hN hl hc1
  rw [if_pos rfl]
  simp only
  rw [e2,bO]
  exact key c2 cf hc2 hcf
 | false =>
  rw [if_neg (by simp)]
  exact key c1 [1,2,3] hc1 (by decide)
theorem text_l1 (N : Nat) {b : List Int} (hl : b.length ≤ 1099511627776) (v : Int) (hv : v ≤ 100000) : ∀ (d f : Nat) (i : Int) (c : TU) (acc : List Int),v ≤ i + d → 0 ≤ i → i ≤ 100000 → d < f → acc.length + d ≤ 200000 → CurOk b c → ∃ c' out,s_l01Text_l1 N v f i c.b c.i c.h acc = some (c'.b,c'.i,c'.h,out) ∧ CurOk b c' ∧ out.length ≤ acc.length + d := by
 intro d
 induction d with
 | zero =>
  intro f i c acc hd h0 h1 hf ha hc
  obtain ⟨f,rfl⟩ : ∃ q,f = q + 1 := ⟨f - 1,by omega⟩
  rw [s_l01Text_l1,if_neg (by simp; omega)]
  exact ⟨c,acc,rfl,hc,by omega⟩
 | succ d ih =>
  intro f i c acc hd h0 h1 hf ha hc
  obtain ⟨f,rfl⟩ : ∃ q,f = q + 1 := ⟨f - 1,by omega⟩
  rw [s_l01Text_l1]
  by_cases hle : v ≤ i
  ·rw [if_neg (by simp; omega)]
   exact ⟨c,acc,rfl,hc,by omega⟩
  obtain ⟨r,c',e,_,_,hb,hi⟩ := byte_ok N c hc.2 (by rw [hc.1]; exact hl)
  rw [if_pos (by simp; omega),show (TU.mk c.b c.i c.h) = c from rfl,e,bO,cat_ok (by simp; omega),bO,w64_id (n := i + 1) (by omega) (by omega)]
  obtain ⟨c2,out,e2,hc2,ho⟩ := ih f (i + 1) c' (acc ++ [IntKind.wrap .u8 r]) (by omega) (by omega) (by omega) (by omega) (by simp; omega) ⟨hb.trans hc.1,hi⟩
  refine ⟨c2,out,e2,hc2,?_⟩
  simp only [List.length_append,List.length_cons,List.length_nil] at ho
  omega
theorem text_cur (N : Nat) (hN : Big N) {b : List Int} (hl : b.length ≤ 1099511627776) {c : TU} (h : CurOk b c) (k : Int) (h0 : 0 ≤ k) : ∃ t c',s_l01Text N c k = some (t,c') ∧ t.size ≤ 5000 ∧ CurOk b c' := by
 have key : ∀ v : Int,0 ≤ v → v ≤ 5000 → ∃ t c',((s_l01Text_l1 N v N (0 : Int) c.b c.i c.h ([] : List Int)).bind fun w => some (strOf w.2.2.2,(TU.mk w.1 w.2.1 w.2.2.1))) = some (t,c') ∧ t.size ≤ 5000 ∧ CurOk b c' := by
  intro v hv0 hv1
  obtain ⟨c',out,e,hc,ho⟩ := text_l1 N hl v (by omega) v.toNat N 0 c [] (by omega) (by omega) (by omega) (by have := hN; unfold Big at this; omega) (by simp; omega) h
  rw [e,bO]
  refine ⟨_,_,rfl,?_,hc⟩
  rw [strOf_size]
  simp only [List.length_nil] at ho
  simp only
  omega
 unfold s_l01Text
 simp only [joinP]
 by_cases hk : k > 5000
 ·rw [if_pos (by simpa using hk)]
  exact key 5000 (by omega) (by omega)
 ·rw [if_neg (by simpa using hk)]
  exact key k h0 (by omega)
theorem right_l1 (N : Nat) (hN : Big N) {b : List Int} (hl : b.length ≤ 1099511627776) (y : Int × TU) : ∀ (d f : Nat) (t i : Int) (c : TU) (es : List Entry),i + d = 5 → 0 ≤ i → d + 1 < f → CurOk b c → es.length ≤ i → (∀ e ∈ es,e.Data.size ≤ 1000) →
  ∃ c' out,s_l14Right_l1 N y f t i c.b c.i c.h es = some (c'.b,c'.i,c'.h,out) ∧ CurOk b c' ∧ out.length ≤ 5 ∧ ∀ e ∈ out,e.Data.size ≤ 1000 := by
 intro d
 induction d with
 | zero =>
  intro f t i c es hd h0 hf hc he hs
  obtain ⟨f,rfl⟩ : ∃ q,f = q + 1 := ⟨f - 1,by omega⟩
  obtain ⟨r,c1,e1,l1,u1,hc1⟩ := below_cur N hl hc 5
  have u1' := u1 (by decide)
  rw [s_l14Right_l1,show (TU.mk c.b c.i c.h) = c from rfl,e1,bO,if_neg (by simp; omega)]
  exact ⟨c1,es,rfl,hc1,by omega,hs⟩
 | succ d ih =>
  intro f t i c es hd h0 hf hc he hs
  obtain ⟨f,rfl⟩ : ∃ q,f = q + 1 := ⟨f - 1,by omega⟩
  obtain ⟨r,c1,e1,l1,u1,hc1⟩ := below_cur N hl hc 5
  have u1' := u1 (by decide)
  rw [s_l14Right_l1,show (TU.mk c.b c.i c.h) = c from rfl,e1,bO]
  by_cases hi : i < r
  ·rw [if_pos (by simpa using hi)]
   obtain ⟨r2,c2,e2,_,_,hc2⟩ := below_cur N hl hc1 (w64 (w64 (y.1 - t) + 1))
   obtain ⟨e,c3,e3,hd3,hc3⟩ := l11Right_cur N hN hl hc2 (w64 (t + r2))
   simp only [e2,e3,bO]
   rw [cat_ok (by simp; omega),bO,w64_id (n := i + 1) (by omega) (by omega)]
   refine ih f _ (i + 1) c3 (es ++ [e]) (by omega) (by omega) (by omega) hc3 (by simp; omega) (fun z hz => ?_)
   rcases List.mem_append.1 hz with hz | hz
   ·exact hs z hz
   ·simp only [List.mem_singleton] at hz
    subst hz
    exact hd3
  ·rw [if_neg (by simpa using hi)]
   exact ⟨c1,es,rfl,hc1,by omega,hs⟩
def MsgSmall (m : Message) : Prop := m.Entries.length ≤ 5 ∧ (∀ e ∈ m.Entries,e.Data.size ≤ 1000) ∧ m.Conf.length ≤ 4 ∧ m.Data.size ≤ 5000 ∧ m.Commit ≤ 20000
theorem small_tot {m : Message} (h : MsgSmall m) : totMessage m ≤ 20000 := by
 obtain ⟨h1,h2,h3,h4,_⟩ := h
 have h5 := sum_le (f := totEntry) (B := 1000) (xs := m.Entries) h2
 have h6 := sum0 (f := fun _ : Int => 0) (fun _ => rfl) m.Conf
 simp only [totMessage,totL]
 omega
theorem l14Right_cur (N : Nat) (hN : Big N) {b : List Int} (hl : b.length ≤ 1099511627776) {c : TU} (h : CurOk b c) : ∃ m c',s_l14Right N c = some (m,c') ∧ MsgSmall m ∧ CurOk b c' := by
 obtain ⟨r1,c1,e1,l1,u1,h1⟩ := below_cur N hl h 6
 obtain ⟨r2,c2,e2,l2,u2,h2⟩ := below_cur N hl h1 4
 obtain ⟨r3,c3,e3,l3,u3,h3⟩ := below_cur N hl h2 8
 obtain ⟨r4,c4,e4,l4,u4,h4⟩ := below_cur N hl h3 12
 obtain ⟨r5,c5,e5,l5,u5,h5⟩ := below_cur N hl h4 5
 obtain ⟨r6,c6,e6,l6,u6,h6⟩ := below_cur N hl h5 9
 obtain ⟨q7,c7,e7,h7⟩ := once_cur N hl h6 2
 have u1' := u1 (by decide)
 have u2' := u2 (by decide)
 have u3' := u3 (by decide)
 have u4' := u4 (by decide)
 have u5' := u5 (by decide)
 have u6' := u6 (by decide)
 unfold s_l14Right
 simp only [e1,e2,e3,e4,e5,e6,e7,bO,joinP]
 rw [w64_id (n := 1 + r2) (by omega) (by omega)]
 obtain ⟨r8,e8,l8,u8⟩ := rem_lo (1 + r2) (by omega) 4 (by decide)
 rw [e8,bO,w64_id (n := 1 + r1) (by omega) (by omega)]
 by_cases k3 : 1 + r1 = 3
 ·rw [if_pos (by simpa using k3),w64_id (n := r3 + 1) (by omega) (by omega)]
  obtain ⟨r9,c9,e9,l9,u9,h9⟩ := below_cur N hl h7 (r3 + 1)
  rw [e9,bO]
  obtain ⟨c10,out,e10,h10,ho,hs⟩ := right_l1 N hN hl (r3,c3) 5 N r9 0 c9 [] (by decide) (by decide) (by have := hN; unfold Big at this; omega) h9 (by simp) (fun e he => by cases he)
  simp only
  rw [e10,bO]
  exact ⟨_,_,rfl,⟨ho,hs,Nat.zero_le _,Nat.zero_le _,by simp only; omega⟩,h10⟩
 rw [if_neg (by simpa using k3)]
 by_cases k5 : 1 + r1 = 5
 ·rw [if_pos (by simpa using k5)]
  obtain ⟨cf,c8,e9,hcf,h8⟩ := conf_cur N hN hl h7
  obtain ⟨r9,c9,e10,l9,u9,h9⟩ := below_cur N hl h8 9
  obtain ⟨t,c10,e11,ht,h10⟩ := text_cur N hN hl h9 r9 l9
  obtain ⟨q,c11,e12,h11⟩ := once_cur N hl h10 2
  simp only [e9,e10,e11,e12,bO]
  exact ⟨_,_,rfl,⟨Nat.zero_le _,(fun e he => by cases he),(confOk_len hcf).2,ht,by simp only; omega⟩,h11⟩
 ·rw [if_neg (by simpa using k5)]
  exact ⟨_,_,rfl,⟨Nat.zero_le _,(fun e he => by cases he),Nat.zero_le _,Nat.zero_le _,by simp only; omega⟩,h7⟩
theorem steps_ok (N : Nat) (b : List Int) (hl : b.length ≤ 1099511627) : ∃ x,s_l16Steps N b = some x ∧ x ≤ 70 := by
 have hq : ∃ q,intD .quo .i64 (b.length : Int) (4 : Int) = some q := by
  unfold intD
  simp only
  rw [if_neg (by decide)]
  exact ⟨_,rfl⟩
 obtain ⟨q,e⟩ := hq
 unfold s_l16Steps
 rw [e,bO]
 by_cases h : w64 (10 + q) > 70
 ·rw [if_pos (by simpa using h)]
  exact ⟨70,rfl,Int.le_refl _⟩
 ·rw [if_neg (by simpa using h)]
  exact ⟨_,rfl,by omega⟩
theorem drawNode_ok (N : Nat) (hN : Big N) (b : List Int) (hl : b.length ≤ 1099511627) : ∃ n m,s_DrawRightNode N b = some (n,m) ∧ Right n ∧ m.To = n.Id ∧ totMessage m ≤ 20000 ∧ (m.Kind = 6 → m.Commit ≤ 20000) := by
 obtain ⟨hh,e1⟩ := new_ok N hN b hl
 obtain ⟨x,e2,hx⟩ := steps_ok N b hl
 have h1 : CurOk b ⟨b,0,hh⟩ := ⟨rfl,Int.le_refl _⟩
 have hl2 : b.length ≤ 1099511627776 := by omega
 obtain ⟨ns,net,c2,e3,h2,hr,hnl,hn⟩ := play_ok N hN hl2 h1 x (by omega)
 obtain ⟨r3,c3,e4,l3,u3,h3⟩ := below_cur N hl2 h2 4
 have u3' := u3 (by decide)
 obtain ⟨m4,c4,e5,hm4,h4⟩ := l14Right_cur N hN hl2 h3
 unfold s_DrawRightNode
 simp only [e1,e2,e3,e4,e5,bO,joinP]
 have key : ∀ (at_ : Int) (k f T i lt cm : Int) (ok : Bool) (es : List Entry) (cf : List Int) (dt : ByteArray) (ls : Bool),0 ≤ at_ → at_ < 4 → (∀ fr to,totMessage ⟨k,fr,to,T,i,lt,cm,ok,es,cf,dt,ls⟩ ≤ 20000) → (k = 6 → cm ≤ 20000) →
   ∃ n m,(if (f == (w64 (at_ + (1 : Int)))) = true then (intD .rem .i64 (w64 (at_ + (1 : Int))) (4 : Int)).bind fun x_209 => (at? ns at_).bind fun x_211 => some (x_211,(Message.mk k (w64 (x_209 + (1 : Int))) (w64 (at_ + (1 : Int))) T i lt cm ok es cf dt ls))
    else (at? ns at_).bind fun x_211 => some (x_211,(Message.mk k f (w64 (at_ + (1 : Int))) T i lt cm ok es cf dt ls))) = some (n,m) ∧ Right n ∧ m.To = n.Id ∧ totMessage m ≤ 20000 ∧ (m.Kind = 6 → m.Commit ≤ 20000) := by
  intro at_ k f T i lt cm ok es cf dt ls h0 h9 ht hk6
  obtain ⟨n,en,_,hrn,hid⟩ := hr.at h0 h9
  rw [w64_id (n := at_ + 1) (by omega) (by omega),en]
  by_cases hf : f = at_ + 1
  ·obtain ⟨r,er,_,_⟩ := rem_lo (at_ + 1) (by omega) 4 (by decide)
   rw [if_pos (by simpa using hf),er,bO,bO]
   exact ⟨_,_,rfl,hrn,hid.symm,ht _ _,hk6⟩
  ·rw [if_neg (by simpa using hf),bO]
   exact ⟨_,_,rfl,hrn,hid.symm,ht _ _,hk6⟩
 have hm4' : ∀ fr to,totMessage ⟨m4.Kind,fr,to,m4.Term,m4.Index,m4.LogTerm,m4.Commit,m4.Ok,m4.Entries,m4.Conf,m4.Data,m4.Last⟩ ≤ 20000 := fun fr to => small_tot hm4
 by_cases kn : net.length > 0
 ·rw [if_pos (by simp; omega)]
  obtain ⟨q,c5,e6,h5⟩ := once_cur N hl2 h4 3
  rw [e6,bO]
  cases q with
  | true =>
   rw [if_neg (by simp)]
   exact key r3 m4.Kind m4.From m4.Term m4.Index m4.LogTerm m4.Commit m4.Ok m4.Entries m4.Conf m4.Data m4.Last l3 u3' hm4' (fun _ => hm4.2.2.2.2)
  | false =>
   obtain ⟨r7,c7,e7,l7,u7,h7⟩ := below_cur N hl2 h5 (net.length : Int)
   have u7' := u7 (by omega)
   have hk : r7.toNat < net.length := by omega
   have em : at? net r7 = some net[r7.toNat] := by
    have := at_lt (xs := net) hk
    rwa [Int.toNat_of_nonneg l7] at this
   rw [if_pos (by simp),e7,bO]
   simp only
   rw [em,bO]
   obtain ⟨hto,htm,hk6⟩ := hn _ (List.getElem_mem hk)
   generalize net[r7.toNat] = m at hto htm hk6
   rw [w64_id (n := m.To - 1) (by omega) (by omega)]
   exact key (m.To - 1) m.Kind m.From m.Term m.Index m.LogTerm m.Commit m.Ok m.Entries m.Conf m.Data m.Last (by omega) (by omega) (fun fr to => htm) (fun e => absurd e hk6)
 ·rw [if_neg (show ¬ (decide (((net.length : Nat) : Int) > (0 : Int)) = true) by rw [decide_eq_true_eq]; omega)]
  exact key r3 m4.Kind m4.From m4.Term m4.Index m4.LogTerm m4.Commit m4.Ok m4.Entries m4.Conf m4.Data m4.Last l3 u3' hm4' (fun _ => hm4.2.2.2.2)
theorem mok_ir (N : Nat) (hN : Big N) (x : Message) : ∀ (es : List Entry) (t : Int) (k : Nat),k + es.length ≤ 1099511627 → (∀ e ∈ es,e.Data.size ≤ 1099511627) → i_MessageOk_l1_r N x es t (k : Int) = some (if ((decide (es.length = 0) || decide (x.Kind = 3)) && msgTerms x.Term t es) = true then .inr () else .inl false)
 | [],t,k,hk,h => rfl
 | e :: es,t,k,hk,h => by
  simp only [List.length_cons] at hk
  rw [i_MessageOk_l1_r,msgTerms_cons,bO]
  by_cases h3 : x.Kind = 3
  ·rw [if_neg (show ¬ ((x.Kind != 3) = true) by simpa using h3)]
   simp only [bO,entOk_impl N hN e (h e (by simp)),within_eq,w64_succ (k := k) (by omega),mok_ir N hN x es e.Term (k + 1) (by omega) (fun z hz => h z (by simp [hz]))]
   rw [decide_eq_true h3,Bool.or_true,Bool.true_and,Bool.or_true,Bool.true_and]
   cases entOk e with
   | false => rfl
   | true =>
    by_cases h1 : t ≤ e.Term
    ·by_cases h2 : e.Term ≤ x.Term
     ·simp [h1,h2]
     ·simp [h1,h2]
    ·simp [h1]
  ·rw [if_pos (show (x.Kind != 3) = true by simpa using h3),decide_eq_false h3,Bool.or_false,decide_eq_false (show ¬ ((e :: es).length = 0) by simp),Bool.false_and]
   rfl
theorem messageOk_impl (N : Nat) (hN : Big N) (m : Message) (h : totMessage m ≤ 1099511627) : i_MessageOk N m = some (messageOk m) := by
 have hd : m.Entries.length ≤ 1099511627 ∧ m.Conf.length ≤ 1099511627 ∧ ∀ e ∈ m.Entries,e.Data.size ≤ 1099511627 := by
  simp only [totMessage,totL] at h
  refine ⟨by omega,by omega,fun e he => ?_⟩
  have := le_sum (f := totEntry) he
  simp only [totEntry] at this
  omega
 unfold i_MessageOk messageOk
 simp only [within_eq,bO]
 refine iteF' fun _ => iteF' fun _ => iteF' fun _ => ?_
 cases hft : (m.From == m.To) with
 | true => rfl
 | false =>
  rw [if_neg (by simp),Bool.not_false,Bool.true_and]
  refine iteF' fun _ => iteF' fun _ => iteF' fun _ => iteF' fun _ => ?_
  simp only [joinP]
  rw [i_MessageOk_l1_eq m (by omega) (by have := hN; unfold Big at this; omega),show (0 : Int) = ((0 : Nat) : Int) from rfl,mok_ir N hN m m.Entries m.LogTerm 0 (by omega) hd.2.2]
  by_cases h4 : m.Entries.length ≤ 4
  ·rw [if_neg (by simp; omega),decide_eq_true h4,Bool.true_and]
   cases hA : (decide (m.Entries.length = 0) || decide (m.Kind = 3)) with
   | false =>
    simp only [Bool.false_and]
    split <;> rfl
   | true =>
    simp only [Bool.true_and]
    cases hB : msgTerms m.Term m.LogTerm m.Entries with
    | false =>
     simp only [Bool.false_and]
     split <;> rfl
    | true =>
     simp only [if_true,bO,Sum.elim_inr,Bool.true_and,confOk_impl N hN m.Conf (by omega)]
     by_cases h5 : m.Kind = 5
     ·rw [if_pos (show (m.Kind == 5) = true by simpa using h5),if_pos h5]
      by_cases hs : m.Data.size ≤ 60
      ·rw [if_neg (by simp; omega),decide_eq_true hs,Bool.and_true]
      ·rw [if_pos (by simp; omega),decide_eq_false hs,Bool.and_false]
     ·rw [if_neg (show ¬ ((m.Kind == 5) = true) by simpa using h5),if_neg h5]
      by_cases hz : m.Data = (⟨#[]⟩ : ByteArray)
      ·rw [if_neg (by rw [hz]; decide)]
       by_cases hc : m.Conf.length = 0
       ·rw [if_pos (by simp [hc]),decide_eq_true hc,Bool.true_and,decide_eq_true hz]
        rfl
       ·rw [if_neg (by simp; intro h; rw [h] at hc; simp at hc),decide_eq_false hc,Bool.false_and]
      ·rw [decide_eq_false hz,Bool.false_and,Bool.and_false]
       split
       ·rfl
       ·split <;> rfl
  ·rw [if_pos (by simp; omega),decide_eq_false h4,Bool.false_and]
theorem tell_impl (N : Nat) (n : Node) (t : List Message) (x : Message) (ht : t.length ≤ 1000) : c_tell N ⟨n,t⟩ x = some ⟨n,t ++ [⟨x.Kind,n.Id,x.To,n.Term,x.Index,x.LogTerm,x.Commit,x.Ok,x.Entries,x.Conf,x.Data,x.Last⟩]⟩ := by
 unfold c_tell
 rw [cat_ok (by simp; omega)]
 rfl
theorem askVote_impl (N : Nat) (n : Node) (m : Message) (hl : logOk n.Log = true) : c_askVote N ⟨n,[]⟩ m = some ⟨(askVoteN n m).1,(askVoteN n m).2⟩ := by
 unfold c_askVote
 simp only [joinP]
 rw [logLast_impl N hl]
 simp only [bO]
 have hfin : ∀ b : Bool,b = voteOk n m →
   (if b = true then (c_tell N (TK.mk (Node.mk n.Id n.Term m.From n.Role n.Lead n.Conf n.Log n.Commit 0 n.Limit n.Votes n.Peers) []) (Message.mk 2 0 m.From 0 0 0 0 b [] [] (⟨#[]⟩ : ByteArray) false)).bind fun y => some (TK.mk (Node.mk y.n.Id y.n.Term y.n.Vote y.n.Role y.n.Lead n.Conf (Log.mk y.n.Log.Start y.n.Log.StartTerm n.Log.Entries) y.n.Commit y.n.Clock y.n.Limit n.Votes n.Peers) y.out)
   else (c_tell N (TK.mk (Node.mk n.Id n.Term n.Vote n.Role n.Lead n.Conf n.Log n.Commit n.Clock n.Limit n.Votes n.Peers) []) (Message.mk 2 0 m.From 0 0 0 0 b [] [] (⟨#[]⟩ : ByteArray) false)).bind fun y => some (TK.mk (Node.mk y.n.Id y.n.Term y.n.Vote y.n.Role y.n.Lead n.Conf (Log.mk y.n.Log.Start y.n.Log.StartTerm n.Log.Entries) y.n.Commit y.n.Clock y.n.Limit n.Votes n.Peers) y.out)) = some ⟨(askVoteN n m).1,(askVoteN n m).2⟩ := by
  intro b hb
  rw [tell_impl N _ _ _ (by simp),tell_impl N _ _ _ (by simp),bO,bO]
  unfold askVoteN voted
  rw [← hb]
  cases b <;> rfl
 have hf : ∀ X : Bool → Option TK,(∀ b,b = voteOk n m → X b = some ⟨(askVoteN n m).1,(askVoteN n m).2⟩) →
   (if (m.Term == n.Term) = true then (if (n.Vote == (0 : Int)) = true then (if decide (m.LogTerm > logTerm n.Log) = true then X true else if (m.LogTerm == logTerm n.Log) = true then X (decide (m.Index ≥ logEnd n.Log)) else X false) else if (n.Vote == m.From) = true then (if decide (m.LogTerm > logTerm n.Log) = true then X true else if (m.LogTerm == logTerm n.Log) = true then X (decide (m.Index ≥ logEnd n.Log)) else X false) else X false) else X false) = some ⟨(askVoteN n m).1,(askVoteN n m).2⟩ := by
  intro X hX
  have hin : (m.Term = n.Term) → (n.Vote = 0 ∨ n.Vote = m.From) → (if decide (m.LogTerm > logTerm n.Log) = true then X true else if (m.LogTerm == logTerm n.Log) = true then X (decide (m.Index ≥ logEnd n.Log)) else X false) = some ⟨(askVoteN n m).1,(askVoteN n m).2⟩ := by
   intro h1 h2
   by_cases h3 : m.LogTerm > logTerm n.Log
   ·rw [if_pos (decide_eq_true h3)]
    refine hX true ?_
    unfold voteOk
    exact (decide_eq_true ⟨h1,h2,.inl h3⟩).symm
   ·rw [if_neg (show ¬ (decide (m.LogTerm > logTerm n.Log) = true) by simpa using h3)]
    by_cases h4 : m.LogTerm = logTerm n.Log
    ·rw [if_pos (show (m.LogTerm == logTerm n.Log) = true by simpa using h4)]
     refine hX _ ?_
     unfold voteOk
     exact decide_eq_decide.2 ⟨fun h => ⟨h1,h2,.inr ⟨h4,h⟩⟩,fun h => h.2.2.elim (fun e => absurd e h3) (fun e => e.2)⟩
    ·rw [if_neg (show ¬ ((m.LogTerm == logTerm n.Log) = true) by simpa using h4)]
     refine hX false ?_
     unfold voteOk
     rw [decide_eq_false]
     rintro ⟨_,_,h5 | h5⟩
     ·exact h3 h5
     ·exact h4 h5.1
  by_cases h1 : m.Term = n.Term
  ·rw [if_pos (by simpa using h1)]
   by_cases h2 : n.Vote = 0
   ·rw [if_pos (by simpa using h2)]
    exact hin h1 (.inl h2)
   ·rw [if_neg (by simpa using h2)]
    by_cases h3 : n.Vote = m.From
    ·rw [if_pos (by simpa using h3)]
     exact hin h1 (.inr h3)
    ·rw [if_neg (by simpa using h3)]
     refine hX false ?_
     unfold voteOk
     rw [decide_eq_false]
     rintro ⟨_,h4 | h4,_⟩
     ·exact h2 h4
     ·exact h3 h4
  ·rw [if_neg (by simpa using h1)]
   refine hX false ?_
   unfold voteOk
   rw [decide_eq_false]
   rintro ⟨h4,_⟩
   exact h1 h4
 exact hf (fun b => (if b = true then (c_tell N (TK.mk (Node.mk n.Id n.Term m.From n.Role n.Lead n.Conf n.Log n.Commit 0 n.Limit n.Votes n.Peers) []) (Message.mk 2 0 m.From 0 0 0 0 b [] [] (⟨#[]⟩ : ByteArray) false)).bind fun y => some (TK.mk (Node.mk y.n.Id y.n.Term y.n.Vote y.n.Role y.n.Lead n.Conf (Log.mk y.n.Log.Start y.n.Log.StartTerm n.Log.Entries) y.n.Commit y.n.Clock y.n.Limit n.Votes n.Peers) y.out)
   else (c_tell N (TK.mk (Node.mk n.Id n.Term n.Vote n.Role n.Lead n.Conf n.Log n.Commit n.Clock n.Limit n.Votes n.Peers) []) (Message.mk 2 0 m.From 0 0 0 0 b [] [] (⟨#[]⟩ : ByteArray) false)).bind fun y => some (TK.mk (Node.mk y.n.Id y.n.Term y.n.Vote y.n.Role y.n.Lead n.Conf (Log.mk y.n.Log.Start y.n.Log.StartTerm n.Log.Entries) y.n.Commit y.n.Clock y.n.Limit n.Votes n.Peers) y.out))) hfin
theorem rise_lt {lo hi : Int} : ∀ {xs : List Int} {q : Int},rise lo hi (some q) xs = true → ∀ x ∈ xs,q < x
 | y :: ys,q,h,x,hx => by
  rw [rise_cons] at h
  simp only [Bool.and_eq_true,decide_eq_true_eq] at h
  rcases List.mem_cons.1 hx with rfl | hx
  ·exact h.2.1
  ·have := rise_lt h.2.2 x hx
   omega
theorem rise_in {lo hi : Int} : ∀ {xs : List Int} {p : Option Int},rise lo hi p xs = true → ∀ x ∈ xs,lo ≤ x ∧ x ≤ hi
 | y :: ys,p,h,x,hx => by
  rw [rise_cons] at h
  simp only [Bool.and_eq_true,decide_eq_true_eq] at h
  rcases List.mem_cons.1 hx with rfl | hx
  ·exact h.1
  ·exact rise_in h.2.2 x hx
def upFrom : Nat → Int → List Int
 | 0,_ => []
 | d + 1,a => a :: upFrom d (a + 1)
theorem upFrom_ge : ∀ (d : Nat) (a : Int),∀ x ∈ upFrom d a,a ≤ x
 | d + 1,a,x,hx => by
  rcases List.mem_cons.1 hx with rfl | hx
  ·exact Int.le_refl _
  ·have := upFrom_ge d (a + 1) x hx
   omega
theorem rise_filter : ∀ (d : Nat) (a : Int) (p : Option Int) (v : List Int),rise 1 4 p v = true → (∀ x ∈ v,a ≤ x) → (∀ x ∈ v,x < a + d) → v = (upFrom d a).filter (fun i => decide (i ∈ v))
 | 0,a,p,v,h,h1,h2 => by
  cases v with
  | nil => rfl
  | cons x xs =>
   have := h1 x (by simp)
   have := h2 x (by simp)
   omega
 | d + 1,a,p,v,h,h1,h2 => by
  rw [upFrom]
  cases v with
  | nil => simp
  | cons x xs =>
   have hx1 := h1 x (by simp)
   have hr := h
   rw [rise_cons] at hr
   simp only [Bool.and_eq_true,decide_eq_true_eq] at hr
   by_cases he : x = a
   ·subst he
    have hl := rise_lt hr.2.2
    have ih := rise_filter d (x + 1) (some x) xs hr.2.2 (fun y hy => by have := hl y hy; omega) (fun y hy => by have := h2 y (by simp [hy]); push_cast at this; omega)
    rw [List.filter_cons,if_pos (by simp)]
    congr 1
    rw [List.filter_congr (q := fun i => decide (i ∈ xs)) (fun i hi => by
     have := upFrom_ge d (x + 1) i hi
     have hne : i ≠ x := by omega
     simp [hne])]
    exact ih
   ·have hn : a ∉ x :: xs := fun hm => by
     rcases List.mem_cons.1 hm with e | e
     ·exact he e.symm
     ·have := rise_lt hr.2.2 a e
      omega
    rw [List.filter_cons,if_neg (by simpa using hn)]
    exact rise_filter d (a + 1) p (x :: xs) h (fun y hy => by
     have := h1 y hy
     have hne : y ≠ a := fun e => hn (e ▸ hy)
     omega) (fun y hy => by have := h2 y hy; push_cast at this; omega)
theorem rise_four {v : List Int} (h : rise 1 4 none v = true) : v = ([1,2,3,4] : List Int).filter (fun i => decide (i ∈ v)) := by
 have := rise_filter 4 1 none v h (fun x hx => (rise_in h x hx).1) (fun x hx => by have := (rise_in h x hx).2; omega)
 exact this
theorem sort_four (K : Nat) (p1 p2 p3 p4 : Bool) (f : Int) (hf : 1 ≤ f ∧ f ≤ 4) (hn : f ∉ ([1,2,3,4] : List Int).filter (fun i => if i = 1 then p1 else if i = 2 then p2 else if i = 3 then p3 else p4)) :
  L_Sort_int (K + 100) (([1,2,3,4] : List Int).filter (fun i => if i = 1 then p1 else if i = 2 then p2 else if i = 3 then p3 else p4) ++ [f]) = some (([1,2,3,4] : List Int).filter (fun i => decide (i = f ∨ (if i = 1 then p1 else if i = 2 then p2 else if i = 3 then p3 else p4) = true))) := by
 have hc : f = 1 ∨ f = 2 ∨ f = 3 ∨ f = 4 := by omega
 rcases hc with rfl | rfl | rfl | rfl
 ·cases p1 with
  | true => exact absurd (by decide +revert) hn
  | false => cases p2 <;> cases p3 <;> cases p4 <;> (show @Eq (Option (List Int)) _ _; kernel_rfl)
 ·cases p2 with
  | true => exact absurd (by decide +revert) hn
  | false => cases p1 <;> cases p3 <;> cases p4 <;> (show @Eq (Option (List Int)) _ _; kernel_rfl)
 ·cases p3 with
  | true => exact absurd (by decide +revert) hn
  | false => cases p1 <;> cases p2 <;> cases p4 <;> (show @Eq (Option (List Int)) _ _; kernel_rfl)
 ·cases p4 with
  | true => exact absurd (by decide +revert) hn
  | false => cases p1 <;> cases p2 <;> cases p3 <;> (show @Eq (Option (List Int)) _ _; kernel_rfl)
theorem sort_impl (N : Nat) (hN : Big N) {v : List Int} (h : rise 1 4 none v = true) {f : Int} (hf : 1 ≤ f ∧ f ≤ 4) (hn : f ∉ v) : L_Sort_int N (v ++ [f]) = some (([1,2,3,4] : List Int).filter (fun i => decide (i = f ∨ i ∈ v))) := by
 obtain ⟨K,rfl⟩ : ∃ K,N = K + 100 := ⟨N - 100,by unfold Big at hN; omega⟩
 have e1 : v = ([1,2,3,4] : List Int).filter (fun i => if i = 1 then decide ((1 : Int) ∈ v) else if i = 2 then decide ((2 : Int) ∈ v) else if i = 3 then decide ((3 : Int) ∈ v) else decide ((4 : Int) ∈ v)) := (rise_four h).trans (List.filter_congr (fun i hi => by
  simp only [List.mem_cons,List.not_mem_nil,or_false] at hi
  rcases hi with rfl | rfl | rfl | rfl <;> rfl))
 have s := sort_four K (decide ((1 : Int) ∈ v)) (decide ((2 : Int) ∈ v)) (decide ((3 : Int) ∈ v)) (decide ((4 : Int) ∈ v)) f hf (by rw [← e1]; exact hn)
 rw [← e1] at s
 rw [s]
 congr 1
 exact List.filter_congr (fun i hi => by
  simp only [List.mem_cons,List.not_mem_nil,or_false] at hi
  rcases hi with rfl | rfl | rfl | rfl <;> simp)
theorem sort_len {N : Nat} {x y : List Int} (h : L_Sort_int N x = some y) : len? x y = some () := by
 unfold L_Sort_int at h
 obtain ⟨a,_,h⟩ := bindO h
 obtain ⟨b,_,h⟩ := bindO h
 obtain ⟨c,hc,h⟩ := bindO h
 cases h
 exact hc
theorem newVotes_in {n : Node} {m : Message} (h : Right n) (hi : m.From ∈ n.Votes) : newVotes n m = n.Votes := by
 refine Eq.trans (List.filter_congr (fun i _ => ?_)) (rise_four h.votes).symm
 refine decide_eq_decide.2 ⟨fun e => ?_,fun e => .inr e⟩
 rcases e with rfl | e
 ·exact hi
 ·exact e
theorem tellVote_impl (N : Nat) (hN : Big N) (n : Node) (m : Message) (h : Right n) (hm : MsgRight m) : c_tellVote N ⟨n,[]⟩ m = some ⟨(tellVoteN n m).1,(tellVoteN n m).2⟩ := by
 have hvl := votes_len h.votes
 have hnv := votes_len (newVotes_rise n m)
 have ht := h.tot
 have hcl := h.clen
 have hcf := confOk_len h.cof
 unfold c_tellVote tellVoteN
 cases hok : m.Ok with
 | false => rfl
 | true =>
  rw [if_neg (show ¬ ((!true) = true) by decide),if_neg (show ¬ (true = false) by decide)]
  by_cases h1 : m.Term = n.Term
  ·rw [if_neg (show ¬ ((m.Term != n.Term) = true) by simpa using h1),if_neg (not_not_intro h1)]
   by_cases h2 : n.Role = 1
   ·rw [if_neg (show ¬ ((n.Role != (1 : Int)) = true) by simpa using h2),if_neg (not_not_intro h2)]
    simp only [joinP]
    have htv : totNode (withVotes n (newVotes n m)) ≤ 30000 := by
     have h6 := sum0 (f := fun _ : Int => 0) (fun _ => rfl) (newVotes n m)
     simp only [totNode,totL,withVotes] at ht ⊢
     omega
    have hc := confOf_impl N hN (withVotes n (newVotes n m)) h.log (by omega)
    have hc' : confOf (withVotes n (newVotes n m)) = confOf n := rfl
    rw [hc'] at hc
    have hld := lead_impl N hN (withVotes n (newVotes n m)) h.log (by omega) hcl h.com h.term
    have tail : ((i_ConfOf N (Node.mk n.Id n.Term n.Vote n.Role n.Lead n.Conf n.Log n.Commit n.Clock n.Limit (newVotes n m) n.Peers)).bind fun y => (i_Most N y (newVotes n m)).bind fun z => if z = true then (c_lead N (TK.mk (Node.mk n.Id n.Term n.Vote n.Role n.Lead n.Conf n.Log n.Commit n.Clock n.Limit (newVotes n m) n.Peers) [])).bind fun y => some y else some (TK.mk (Node.mk n.Id n.Term n.Vote n.Role n.Lead n.Conf n.Log n.Commit n.Clock n.Limit (newVotes n m) n.Peers) [])) =
      some ⟨(if most (confOf n) (newVotes n m) = true then (leadN (withVotes n (newVotes n m)),(leadN (withVotes n (newVotes n m))).Peers.map (sendMsg (leadN (withVotes n (newVotes n m))))) else (withVotes n (newVotes n m),[])).1,(if most (confOf n) (newVotes n m) = true then (leadN (withVotes n (newVotes n m)),(leadN (withVotes n (newVotes n m))).Peers.map (sendMsg (leadN (withVotes n (newVotes n m))))) else (withVotes n (newVotes n m),[])).2⟩ := by
     rw [show (Node.mk n.Id n.Term n.Vote n.Role n.Lead n.Conf n.Log n.Commit n.Clock n.Limit (newVotes n m) n.Peers) = withVotes n (newVotes n m) from rfl,hc,bO,most_impl N hN (confOf n) (newVotes n m) (by omega) (by omega),bO]
     by_cases hw : most (confOf n) (newVotes n m) = true
     ·rw [if_pos hw,if_pos hw,hld]
      rfl
     ·rw [if_neg hw,if_neg hw]
    rw [in_impl N hN n.Votes m.From (by omega),bO]
    by_cases hin : m.From ∈ n.Votes
    ·rw [decide_eq_true hin,if_neg (by decide)]
     have e := newVotes_in h hin
     rw [e] at tail
     rw [e]
     exact tail
    ·rw [decide_eq_false hin,if_pos (by decide)]
     have hs : L_Sort_int N (n.Votes ++ [m.From]) = some (newVotes n m) := sort_impl N hN h.votes hm.frm hin
     rw [cat_ok (by simp; omega),bO,hs,bO,sort_len hs,bO]
     exact tail
   ·rw [if_pos (show (n.Role != (1 : Int)) = true by simpa using h2),if_pos h2]
  ·rw [if_pos (show (m.Term != n.Term) = true by simpa using h1),if_pos h1]
theorem termsOk_pre : ∀ {xs ys : List Entry} {t : Int},termsOk t (xs ++ ys) = true → termsOk t xs = true
 | [],_,_,_ => rfl
 | x :: xs,ys,t,h => by
  rw [List.cons_append,termsOk_cons] at h
  rw [termsOk_cons]
  simp only [Bool.and_eq_true,decide_eq_true_eq] at h ⊢
  exact ⟨h.1,h.2.1,termsOk_pre h.2.2⟩
theorem logOk_pre {a b : Int} {xs ys : List Entry} (h : logOk ⟨a,b,xs ++ ys⟩ = true) : logOk ⟨a,b,xs⟩ = true := by
 obtain ⟨a1,a2,a3,a4,a5,a6,a7⟩ := logOk_at h
 simp only [List.length_append] at a5 a6
 unfold logOk
 simp only [Bool.and_eq_true,decide_eq_true_eq]
 exact ⟨⟨a1,a2⟩,⟨a3,a4⟩,by omega,by omega,termsOk_pre a7⟩
theorem log_tot {l : Log} (h : logOk l = true) : totLog l ≤ 15000 := by
 obtain ⟨a1,a2,a3,a4,a5,a6,a7⟩ := logOk_at h
 have h4 := sum_le (f := totEntry) (B := 120) (xs := l.Entries) (fun e he => ent_small (termsOk_mem a7 e he))
 simp only [totLog,totL]
 omega
theorem snoc_tot {a b : Int} {xs : List Entry} {e : Entry} (h : logOk ⟨a,b,xs⟩ = true) (he : entOk e = true) : totLog ⟨a,b,xs ++ [e]⟩ ≤ 20000 := by
 have h1 := log_tot h
 have h2 : totEntry e ≤ 120 := ent_small he
 simp only [totLog,totL,List.length_append,List.map_append,List.sum_append,List.map_cons,List.map_nil,List.sum_cons,List.sum_nil,List.length_cons,List.length_nil] at h1 ⊢
 omega
def zLog : Log := ⟨0,0,[]⟩
theorem put_impl (N : Nat) (hN : Big N) {a b : Int} {xs : List Entry} {e : Entry} (hl : logOk ⟨a,b,xs⟩ = true) (he : entOk e = true) {k : Nat} (hk : k ≤ xs.length) {i : Int} (hi : i = a + k + 1) :
  i_logPut N ⟨a,b,xs⟩ i e = some (if logOk ⟨a,b,xs.take k ++ [e]⟩ = true then (⟨a,b,xs.take k ++ [e]⟩,true) else (zLog,false)) := by
 obtain ⟨a1,a2,a3,a4,a5,a6,a7⟩ := logOk_at hl
 simp only at a1 a2 a3 a4 a5 a6 a7
 have hp : logOk ⟨a,b,xs.take k⟩ = true := logOk_pre (ys := xs.drop k) (by rw [List.take_append_drop]; exact hl)
 have ht := snoc_tot hp he
 have hlt := log_tot hl
 have hq : (xs.take k).length = k := by rw [List.length_take]; omega
 unfold i_logPut i_last i_copyLog
 rw [logOk_impl N hN _ (by omega),hl,bO,if_neg (by decide),bO]
 simp only
 rw [within_eq,w64_id (n := a + xs.length) (by omega) (by omega),w64_id (n := a + xs.length + 1) (by omega) (by omega),w64_id (n := a + 1) (by omega) (by omega),bO,decide_eq_true (by omega),if_neg (by decide),cat_ok (by simp only [List.length_nil]; omega),bO,bO]
 simp only [List.nil_append]
 rw [w64_id (n := i - a) (by omega) (by omega),w64_id (n := i - a - 1) (by omega) (by omega),show i - a - 1 = (k : Int) by omega,take_ok hk,bO,Int.toNat_natCast,cat_ok (by rw [hq]; simp only [List.length_cons,List.length_nil]; omega),bO,logOk_impl N hN _ (by omega),bO]
 cases logOk ⟨a,b,xs.take k ++ [e]⟩ <;> rfl
theorem put_r (N : Nat) (hN : Big N) (n : Node) (i : Int) (all : List Entry) (a b : Int) : ∀ (es cur : List Entry) (k : Nat),(∀ e ∈ es,entOk e = true) → logOk ⟨a,b,cur⟩ = true → i + k = a + cur.length → n.Commit ≤ i + k → k + es.length ≤ 1000 → 0 ≤ i →
  i_taken_l1_r N n i all es (k : Int) a b cur = some (if logOk ⟨a,b,cur ++ es⟩ = true then .inr (a,b,cur ++ es) else .inl (zLog,false))
 | [],cur,k,_,hl,_,_,_,_ => by
  rw [i_taken_l1_r,List.append_nil,if_pos hl]
 | e :: es,cur,k,hE,hl,hk,hc,hb,h0 => by
  obtain ⟨a1,a2,a3,a4,a5,a6,a7⟩ := logOk_at hl
  simp only at a1 a2 a3 a4 a5 a6 a7
  simp only [List.length_cons] at hb
  have he := hE e List.mem_cons_self
  have het := (entOk_term he).1
  have hput := put_impl N hN hl he (k := cur.length) (Nat.le_refl _) (i := i + k + 1) (by omega)
  rw [List.take_length] at hput
  have hta : termAt ⟨a,b,cur⟩ (i + k + 1) = -1 := termAt_out (by simp only; omega)
  rw [i_taken_l1_r,w64_id (n := i + k) (by omega) (by omega),w64_id (n := i + k + 1) (by omega) (by omega),bO,termAt_impl N hl (wi_of (by omega) (by omega)),bO,hta,if_neg (by simp; omega),if_neg (by simp; omega),hput,bO,w64_succ (by omega)]
  by_cases hn : logOk ⟨a,b,cur ++ [e]⟩ = true
  ·rw [if_pos hn,if_neg (show ¬ ((!true) = true) by decide)]
   simp only
   rw [put_r N hN n i all a b es (cur ++ [e]) (k + 1) (fun z hz => hE z (List.mem_cons_of_mem _ hz)) hn (by simp only [List.length_append,List.length_cons,List.length_nil]; omega) (by omega) (by omega) h0,List.append_assoc,List.singleton_append]
  ·rw [if_neg hn,if_pos (show (!false) = true by decide)]
   have hno : ¬ logOk ⟨a,b,cur ++ e :: es⟩ = true := fun hq => hn (logOk_pre (ys := es) (by rw [List.append_assoc]; exact hq))
   rw [if_neg hno]
   rfl
theorem agr_r (N : Nat) (hN : Big N) (n : Node) (i : Int) (all : List Entry) (hl : logOk n.Log = true) (h0 : 0 ≤ i ∧ i ≤ 100000) : ∀ (es : List Entry) (k : Nat),(∀ e ∈ es,entOk e = true) → (n.Log.Start ≤ i + k ∧ i + k ≤ n.Log.Start + n.Log.Entries.length) → k + es.length ≤ 1000 →
  i_taken_l1_r N n i all es (k : Int) n.Log.Start n.Log.StartTerm n.Log.Entries = some (if agree n.Log i es k < k + es.length then
   (if i + agree n.Log i es k < n.Commit then .inl (zLog,false) else if logOk ⟨n.Log.Start,n.Log.StartTerm,n.Log.Entries.take (i + agree n.Log i es k - n.Log.Start).toNat ++ es.drop (agree n.Log i es k - k)⟩ = true then .inr (n.Log.Start,n.Log.StartTerm,n.Log.Entries.take (i + agree n.Log i es k - n.Log.Start).toNat ++ es.drop (agree n.Log i es k - k)) else .inl (zLog,false))
   else .inr (n.Log.Start,n.Log.StartTerm,n.Log.Entries))
 | [],k,_,_,_ => by
  rw [i_taken_l1_r,agree,if_neg (by simp)]
 | e :: es,k,hE,hk,hb => by
  obtain ⟨a1,a2,a3,a4,a5,a6,a7⟩ := logOk_at hl
  simp only [List.length_cons] at hb
  have he := hE e List.mem_cons_self
  have het := (entOk_term he).1
  rw [i_taken_l1_r,w64_id (n := i + k) (by omega) (by omega),w64_id (n := i + k + 1) (by omega) (by omega),bO,termAt_impl N (l := ⟨n.Log.Start,n.Log.StartTerm,n.Log.Entries⟩) hl (wi_of (by omega) (by omega)),bO,agree,show i + 1 + (k : Int) = i + k + 1 by omega]
  by_cases ht : termAt n.Log (i + k + 1) = e.Term
  ·rw [if_pos (show (termAt n.Log (i + k + 1) == e.Term) = true by simpa using ht),if_pos ht,w64_succ (by omega)]
   have hin : n.Log.Start ≤ i + k + 1 ∧ i + k + 1 ≤ n.Log.Start + n.Log.Entries.length := by
    by_cases hx : n.Log.Start ≤ i + k + 1 ∧ i + k + 1 ≤ n.Log.Start + n.Log.Entries.length
    ·exact hx
    ·rw [termAt_out hx] at ht
     omega
   have ih := agr_r N hN n i all hl h0 es (k + 1) (fun z hz => hE z (List.mem_cons_of_mem _ hz)) (by push_cast; omega) (by omega)
   rw [ih]
   obtain ⟨_,g2,g3⟩ := agree_in (l := n.Log) (i := i) (es := es) (k := k + 1) (fun z hz => (entOk_term (hE z (List.mem_cons_of_mem _ hz))).1)
   have hd : (e :: es).drop (agree n.Log i es (k + 1) - k) = es.drop (agree n.Log i es (k + 1) - (k + 1)) := by
    rw [show agree n.Log i es (k + 1) - k = (agree n.Log i es (k + 1) - (k + 1)) + 1 by omega,List.drop_succ_cons]
   rw [hd,List.length_cons,show k + (es.length + 1) = k + 1 + es.length by omega]
  ·rw [if_neg (show ¬ ((termAt n.Log (i + k + 1) == e.Term) = true) by simpa using ht),if_neg ht,if_pos (show k < k + (e :: es).length by simp)]
   by_cases hcm : i + k < n.Commit
   ·rw [if_pos (by simp; omega),if_pos hcm]
    rfl
   ·obtain ⟨d,hd⟩ : ∃ d : Nat,i + k - n.Log.Start = d := ⟨(i + k - n.Log.Start).toNat,by omega⟩
    have hdl : d ≤ n.Log.Entries.length := by omega
    have hput := put_impl N hN (a := n.Log.Start) (b := n.Log.StartTerm) (xs := n.Log.Entries) hl he hdl (i := i + k + 1) (by omega)
    rw [if_neg (by simp; omega),if_neg hcm,hput,bO,hd,Int.toNat_natCast,Nat.sub_self,List.drop_zero,w64_succ (by omega)]
    by_cases hn : logOk ⟨n.Log.Start,n.Log.StartTerm,n.Log.Entries.take d ++ [e]⟩ = true
    ·rw [if_pos hn,if_neg (show ¬ ((!true) = true) by decide)]
     simp only
     have hq : (n.Log.Entries.take d).length = d := by rw [List.length_take]; omega
     rw [put_r N hN n i all n.Log.Start n.Log.StartTerm es (n.Log.Entries.take d ++ [e]) (k + 1) (fun z hz => hE z (List.mem_cons_of_mem _ hz)) hn (by simp only [List.length_append,hq,List.length_cons,List.length_nil]; omega) (by omega) (by omega) h0.1,List.append_assoc,List.singleton_append]
    ·rw [if_neg hn,if_pos (show (!false) = true by decide)]
     have hno : ¬ logOk ⟨n.Log.Start,n.Log.StartTerm,n.Log.Entries.take d ++ e :: es⟩ = true := fun hq => hn (logOk_pre (ys := es) (by rw [List.append_assoc]; exact hq))
     rw [if_neg hno]
     rfl
def takenN (n : Node) (i : Int) (es : List Entry) : Log × Bool :=
 if agree n.Log i es 0 < es.length then
  (if i + agree n.Log i es 0 < n.Commit then (zLog,false) else if logOk ⟨n.Log.Start,n.Log.StartTerm,joined n i (agree n.Log i es 0) es⟩ = true then (⟨n.Log.Start,n.Log.StartTerm,joined n i (agree n.Log i es 0) es⟩,true) else (zLog,false))
 else (n.Log,true)
theorem taken_impl (N : Nat) (hN : Big N) (n : Node) (i : Int) (es : List Entry) (hl : logOk n.Log = true) (h0 : 0 ≤ i ∧ i ≤ 100000) (hE : ∀ e ∈ es,entOk e = true) (hi : n.Log.Start ≤ i ∧ i ≤ n.Log.Start + n.Log.Entries.length) (hb : es.length ≤ 1000) : i_taken N n i es = some (takenN n i es) := by
 obtain ⟨a1,a2,a3,a4,a5,a6,a7⟩ := logOk_at hl
 have h := agr_r N hN n i es hl h0 es 0 hE (by omega) (by omega)
 unfold i_taken i_copyLog joinP takenN joined
 rw [cat_ok (by simp only [List.length_nil]; omega),bO,bO]
 simp only [List.nil_append]
 rw [i_taken_l1_eq _ _ _ (by omega) (by have := hN; unfold Big at this; omega),show (0 : Int) = ((0 : Nat) : Int) from rfl,h,bO,Nat.zero_add,Nat.sub_zero]
 by_cases h1 : agree n.Log i es 0 < es.length
 ·rw [if_pos h1,if_pos h1]
  by_cases h2 : i + agree n.Log i es 0 < n.Commit
  ·rw [if_pos h2,if_pos h2]
   rfl
  ·rw [if_neg h2,if_neg h2]
   split <;> rfl
 ·rw [if_neg h1,if_neg h1]
  rfl
def appJ (N : Nat) (n : Node) (m : Message) (v : Int × Int × List Entry) : Option TK :=
 (i_LogTerm N (Log.mk n.Log.Start n.Log.StartTerm n.Log.Entries) v.1).bind fun y =>
 if (y != v.2.1) = true then
  (i_last N (Log.mk n.Log.Start n.Log.StartTerm n.Log.Entries)).bind fun z =>
  (c_tell N (TK.mk (follow n m.From) []) (Message.mk 4 0 m.From 0 (imin (imax (w64 (v.1 - 1)) 0) z) 0 0 false [] [] (⟨#[]⟩ : ByteArray) false)).bind fun u =>
  some (TK.mk (Node.mk u.n.Id u.n.Term u.n.Vote u.n.Role u.n.Lead n.Conf (Log.mk u.n.Log.Start u.n.Log.StartTerm n.Log.Entries) u.n.Commit u.n.Clock u.n.Limit [] []) u.out)
 else
  (i_taken N (follow n m.From) v.1 v.2.2).bind fun y =>
  if (!y.2) = true then
   (i_last N (Log.mk n.Log.Start n.Log.StartTerm n.Log.Entries)).bind fun z =>
   (c_tell N (TK.mk (follow n m.From) []) (Message.mk 4 0 m.From 0 z 0 0 false [] [] (⟨#[]⟩ : ByteArray) false)).bind fun u =>
   some (TK.mk (Node.mk u.n.Id u.n.Term u.n.Vote u.n.Role u.n.Lead n.Conf (Log.mk u.n.Log.Start u.n.Log.StartTerm n.Log.Entries) u.n.Commit u.n.Clock u.n.Limit [] []) u.out)
  else
   (c_tell N (TK.mk (Node.mk n.Id n.Term n.Vote 0 m.From n.Conf y.1 (imax n.Commit (imin m.Commit (w64 (v.1 + (v.2.2.length : Int))))) 0 n.Limit [] []) []) (Message.mk 4 0 m.From 0 (w64 (v.1 + (v.2.2.length : Int))) 0 0 true [] [] (⟨#[]⟩ : ByteArray) false)).bind fun u =>
   some (TK.mk (Node.mk u.n.Id u.n.Term u.n.Vote u.n.Role u.n.Lead n.Conf (Log.mk u.n.Log.Start u.n.Log.StartTerm y.1.Entries) u.n.Commit u.n.Clock u.n.Limit [] []) u.out)
theorem askAppend_idef (N : Nat) (n : Node) (m : Message) : c_askAppend N ⟨n,[]⟩ m =
  if (decide (m.Term < n.Term)) = true then
   (c_tell N ⟨n,[]⟩ (Message.mk 4 0 m.From 0 0 0 0 false [] [] (⟨#[]⟩ : ByteArray) false)).bind fun u =>
   some (TK.mk (Node.mk u.n.Id u.n.Term u.n.Vote u.n.Role u.n.Lead n.Conf (Log.mk u.n.Log.Start u.n.Log.StartTerm n.Log.Entries) u.n.Commit u.n.Clock u.n.Limit n.Votes n.Peers) u.out)
  else if (decide (m.Index < n.Log.Start)) = true then
   (drop? m.Entries (imin (m.Entries.length : Int) (w64 (n.Log.Start - m.Index)))).bind fun x => appJ N n m (n.Log.Start,n.Log.StartTerm,x)
  else appJ N n m (m.Index,m.LogTerm,m.Entries) := by
 unfold c_askAppend c_follows joinP appJ follow
 rfl
def appRest (n : Node) (m : Message) (v : Int × Int × List Entry) : Node × List Message :=
 if termAt n.Log v.1 ≠ v.2.1 then (follow n m.From,[refuseMsg n m (backTo v.1 (logEnd n.Log))]) else
 if agree n.Log v.1 v.2.2 0 < v.2.2.length then
  (if v.1 + agree n.Log v.1 v.2.2 0 < n.Commit then (follow n m.From,[refuseMsg n m (logEnd n.Log)]) else
   if logOk ⟨n.Log.Start,n.Log.StartTerm,joined n v.1 (agree n.Log v.1 v.2.2 0) v.2.2⟩ = false then (follow n m.From,[refuseMsg n m (logEnd n.Log)]) else
   appN n m (v.1 + v.2.2.length) (joined n v.1 (agree n.Log v.1 v.2.2 0) v.2.2))
 else appN n m (v.1 + v.2.2.length) n.Log.Entries
theorem appN_rest (n : Node) (m : Message) (h : ¬ m.Term < n.Term) : askAppendN n m = appRest n m (appFrom n m) := by
 unfold askAppendN appRest
 rw [if_neg h]
theorem appJ_ok (N : Nat) (hN : Big N) (n : Node) (m : Message) (h : Right n) (v : Int × Int × List Entry) (h1 : 0 ≤ v.1 ∧ v.1 ≤ 100000) (h2 : 0 ≤ v.2.1) (h3 : v.2.2.length ≤ 4) (hE : ∀ e ∈ v.2.2,entOk e = true) : appJ N n m v = some ⟨(appRest n m v).1,(appRest n m v).2⟩ := by
 obtain ⟨a1,a2,a3,a4,a5,a6,a7⟩ := logOk_at h.log
 unfold appJ appRest
 rw [termAt_impl N (l := ⟨n.Log.Start,n.Log.StartTerm,n.Log.Entries⟩) h.log (wi_of (by omega) (by omega)),bO]
 unfold i_last
 simp only [bO]
 rw [w64_id (n := n.Log.Start + n.Log.Entries.length) (by omega) (by omega),w64_id (n := v.1 - 1) (by omega) (by omega),w64_id (n := v.1 + v.2.2.length) (by omega) (by omega)]
 by_cases ht : termAt n.Log v.1 = v.2.1
 ·rw [if_neg (show ¬ ((termAt n.Log v.1 != v.2.1) = true) by simpa using ht),if_neg (not_not_intro ht)]
  have hin : n.Log.Start ≤ v.1 ∧ v.1 ≤ n.Log.Start + n.Log.Entries.length := by
   by_cases hx : n.Log.Start ≤ v.1 ∧ v.1 ≤ n.Log.Start + n.Log.Entries.length
   ·exact hx
   ·rw [termAt_out hx] at ht
    omega
  rw [taken_impl N hN (follow n m.From) v.1 v.2.2 h.log h1 hE hin (by omega),bO]
  have hT : takenN (follow n m.From) v.1 v.2.2 = takenN n v.1 v.2.2 := rfl
  rw [hT]
  unfold takenN
  by_cases g1 : agree n.Log v.1 v.2.2 0 < v.2.2.length
  ·rw [if_pos g1,if_pos g1]
   by_cases g2 : v.1 + agree n.Log v.1 v.2.2 0 < n.Commit
   ·rw [if_pos g2,if_pos g2,if_pos (show (!(zLog,false).2) = true by decide),tell_impl N _ _ _ (by simp),bO]
    rfl
   ·rw [if_neg g2,if_neg g2]
    by_cases g3 : logOk ⟨n.Log.Start,n.Log.StartTerm,joined n v.1 (agree n.Log v.1 v.2.2 0) v.2.2⟩ = true
    ·rw [if_pos g3,if_neg (show ¬ (logOk ⟨n.Log.Start,n.Log.StartTerm,joined n v.1 (agree n.Log v.1 v.2.2 0) v.2.2⟩ = false) by rw [g3]; decide),if_neg (show ¬ ((!true) = true) by decide),tell_impl N _ _ _ (by simp),bO]
     rfl
    ·rw [if_neg g3,if_pos (show logOk ⟨n.Log.Start,n.Log.StartTerm,joined n v.1 (agree n.Log v.1 v.2.2 0) v.2.2⟩ = false by simpa using g3),if_pos (show (!(zLog,false).2) = true by decide),tell_impl N _ _ _ (by simp),bO]
     rfl
  ·rw [if_neg g1,if_neg g1,if_neg (show ¬ ((!true) = true) by decide),tell_impl N _ _ _ (by simp),bO]
   rfl
 ·rw [if_pos (show (termAt n.Log v.1 != v.2.1) = true by simpa using ht),if_pos ht,tell_impl N _ _ _ (by simp),bO]
  rfl
theorem askAppend_impl (N : Nat) (hN : Big N) (n : Node) (m : Message) (h : Right n) (hm : MsgRight m) : c_askAppend N ⟨n,[]⟩ m = some ⟨(askAppendN n m).1,(askAppendN n m).2⟩ := by
 obtain ⟨a1,a2,a3,a4,a5,a6,a7⟩ := logOk_at h.log
 obtain ⟨f1,f2,f3,f4⟩ := appFrom_ok h hm
 have hix := hm.index
 have hfw := hm.few
 rw [askAppend_idef]
 by_cases ht : m.Term < n.Term
 ·rw [if_pos (decide_eq_true ht),tell_impl N _ _ _ (by simp),bO]
  unfold askAppendN
  rw [if_pos ht]
  rfl
 rw [if_neg (show ¬ (decide (m.Term < n.Term) = true) by simpa using ht),appN_rest n m ht]
 have hE : ∀ e ∈ (appFrom n m).2.2,entOk e = true := fun e he => (msgTerms_mem hm.terms e (f4 e he)).1
 have hJ := appJ_ok N hN n m h (appFrom n m) f1 f2 f3 hE
 by_cases hi : m.Index < n.Log.Start
 ·rw [if_pos (decide_eq_true hi),w64_id (n := n.Log.Start - m.Index) (by omega) (by omega)]
  have hv : appFrom n m = (n.Log.Start,n.Log.StartTerm,m.Entries.drop (if n.Log.Start - m.Index > m.Entries.length then m.Entries.length else (n.Log.Start - m.Index).toNat)) := by
   unfold appFrom
   rw [if_pos hi]
  have hd : imin (m.Entries.length : Int) (n.Log.Start - m.Index) = (((if n.Log.Start - m.Index > m.Entries.length then m.Entries.length else (n.Log.Start - m.Index).toNat) : Nat) : Int) := by
   unfold imin
   split <;> split <;> omega
  rw [hd,drop_ok (by split <;> omega),bO,← hv]
  exact hJ
 ·rw [if_neg (show ¬ (decide (m.Index < n.Log.Start) = true) by simpa using hi)]
  have hv : appFrom n m = (m.Index,m.LogTerm,m.Entries) := by
   unfold appFrom
   rw [if_neg hi]
  rw [← hv]
  exact hJ
def ixR (f : Int) : List Peer → Nat → Int ⊕ Unit
 | [],_ => .inr ()
 | p :: ps,k => if p.Id = f then .inl (k : Int) else ixR f ps (k + 1)
def ixV (f : Int) (ps : List Peer) : Int := match ixR f ps 0 with
 | .inl v => v
 | .inr _ => -1
theorem lastIx_no (f : Int) : ∀ (ps : List Peer) (k : Nat) (acc : Int),(∀ p ∈ ps,p.Id ≠ f) → lastIx f ps k acc = acc
 | [],_,_,_ => rfl
 | p :: ps,k,acc,h => by
  rw [lastIx,if_neg (h p List.mem_cons_self)]
  exact lastIx_no f ps (k + 1) acc (fun q hq => h q (List.mem_cons_of_mem _ hq))
theorem lastIx_ixR (f : Int) : ∀ (ps : List Peer) (k : Nat) (acc : Int),(ps.map (·.Id)).Nodup → lastIx f ps k acc = (match ixR f ps k with | .inl v => v | .inr _ => acc)
 | [],_,_,_ => rfl
 | p :: ps,k,acc,h => by
  rw [List.map_cons,List.nodup_cons] at h
  rw [lastIx,ixR]
  by_cases he : p.Id = f
  ·rw [if_pos he,if_pos he]
   exact lastIx_no f ps (k + 1) _ (fun q hq e => h.1 (List.mem_map.2 ⟨q,hq,by rw [e,he]⟩))
  ·rw [if_neg he,if_neg he]
   exact lastIx_ixR f ps (k + 1) acc h.2
theorem ixR_at (f : Int) : ∀ (ps : List Peer) (k j : Nat) (q : Peer),(ps.map (·.Id)).Nodup → ps[k]? = some q → q.Id = f → ixR f ps j = .inl ((j + k : Nat) : Int)
 | p :: ps,0,j,q,_,hq,he => by
  simp only [List.getElem?_cons_zero,Option.some.injEq] at hq
  subst hq
  rw [ixR,if_pos he]
  rfl
 | p :: ps,k + 1,j,q,hn,hq,he => by
  rw [List.map_cons,List.nodup_cons] at hn
  rw [List.getElem?_cons_succ] at hq
  have hne : p.Id ≠ f := fun e => hn.1 (List.mem_map.2 ⟨q,List.mem_of_getElem? hq,by rw [he,e]⟩)
  rw [ixR,if_neg hne,ixR_at f ps k (j + 1) q hn.2 hq he]
  congr 2
  omega
theorem pix1_l (N : Nat) (m : Message) (ps : List Peer) (hq : ps.length ≤ 1000) : ∀ (d f k : Nat),ps.length = k + d → d < f → L_IndexFunc_Peer_i1_l1 N ps m f (k : Int) = some (ixR m.From (ps.drop k) k) := by
 intro d
 induction d with
 | zero =>
  intro f k hd hf
  obtain ⟨f,rfl⟩ : ∃ q,f = q + 1 := ⟨f - 1,by omega⟩
  rw [L_IndexFunc_Peer_i1_l1,if_neg (by simp; omega),List.drop_eq_nil_of_le (by omega)]
  rfl
 | succ d ih =>
  intro f k hd hf
  obtain ⟨f,rfl⟩ : ∃ q,f = q + 1 := ⟨f - 1,by omega⟩
  have hk : k < ps.length := by omega
  rw [L_IndexFunc_Peer_i1_l1,if_pos (by simp; omega)]
  unfold c_reply_1
  rw [at_lt hk,bO,bO,w64_succ (by omega),List.drop_eq_getElem_cons hk,ixR]
  by_cases h : ps[k].Id = m.From
  ·rw [if_pos (by simpa using h),if_pos h]
  ·rw [if_neg (by simpa using h),if_neg h,ih f (k + 1) (by omega) (by omega)]
theorem pix1 (N : Nat) (hN : Big N) (m : Message) (ps : List Peer) (hq : ps.length ≤ 1000) : L_IndexFunc_Peer_i1 N ps m = some (ixV m.From ps) := by
 have h := pix1_l N m ps hq ps.length N 0 (by simp) (by have := hN; unfold Big at this; omega)
 unfold L_IndexFunc_Peer_i1 ixV
 simp only [joinP]
 rw [show (0 : Int) = ((0 : Nat) : Int) from rfl,h,bO,List.drop_zero]
 cases ixR m.From ps 0 <;> rfl
theorem pix2_l (N : Nat) (x : Int) (ps : List Peer) (hq : ps.length ≤ 1000) : ∀ (d f k : Nat),ps.length = k + d → d < f → L_IndexFunc_Peer_i2_l1 N ps x f (k : Int) = some (ixR x (ps.drop k) k) := by
 intro d
 induction d with
 | zero =>
  intro f k hd hf
  obtain ⟨f,rfl⟩ : ∃ q,f = q + 1 := ⟨f - 1,by omega⟩
  rw [L_IndexFunc_Peer_i2_l1,if_neg (by simp; omega),List.drop_eq_nil_of_le (by omega)]
  rfl
 | succ d ih =>
  intro f k hd hf
  obtain ⟨f,rfl⟩ : ∃ q,f = q + 1 := ⟨f - 1,by omega⟩
  have hk : k < ps.length := by omega
  rw [L_IndexFunc_Peer_i2_l1,if_pos (by simp; omega)]
  unfold c_matched_1
  rw [at_lt hk,bO,bO,w64_succ (by omega),List.drop_eq_getElem_cons hk,ixR]
  by_cases h : ps[k].Id = x
  ·rw [if_pos (by simpa using h),if_pos h]
  ·rw [if_neg (by simpa using h),if_neg h,ih f (k + 1) (by omega) (by omega)]
theorem pix2 (N : Nat) (hN : Big N) (x : Int) (ps : List Peer) (hq : ps.length ≤ 1000) : L_IndexFunc_Peer_i2 N ps x = some (ixV x ps) := by
 have h := pix2_l N x ps hq ps.length N 0 (by simp) (by have := hN; unfold Big at this; omega)
 unfold L_IndexFunc_Peer_i2 ixV
 simp only [joinP]
 rw [show (0 : Int) = ((0 : Nat) : Int) from rfl,h,bO,List.drop_zero]
 cases ixR x ps 0 <;> rfl
theorem commitN_two {n : Node} (hr : n.Role = 2) : ((commitN n).Role = 2 ∧ (commitN n).Peers = n.Peers) ∨ ((commitN n).Role ≠ 2 ∧ (commitN n).Peers = []) := by
 unfold commitN
 split
 ·exact .inr ⟨show ¬ ((0 : Int) = 2) by decide,rfl⟩
 ·exact .inl ⟨hr,rfl⟩
def nextPeer (l : Log) (p : Peer) (i : Int) : Peer := ⟨p.Id,imax p.Match (imin i (logEnd l)) + 1,imax p.Match (imin i (logEnd l)),p.Sent⟩
theorem matched_impl (N : Nat) (hN : Big N) (n : Node) (h : Right n) (hr : n.Role = 2) {k : Nat} {p : Peer} (hp : n.Peers[k]? = some p) (i : Int) (hi : 0 ≤ i ∧ i ≤ 100000) :
  c_matched N ⟨n,[]⟩ (k : Int) i = some ⟨commitN (withPeers n (n.Peers.set k (nextPeer n.Log p i))),if (commitN (withPeers n (n.Peers.set k (nextPeer n.Log p i)))).Role = 2 ∧ (nextPeer n.Log p i).Next ≤ logEnd n.Log then [sendMsg (commitN (withPeers n (n.Peers.set k (nextPeer n.Log p i)))) (nextPeer n.Log p i)] else []⟩ := by
 obtain ⟨a1,a2,a3,a4,a5,a6,a7⟩ := logOk_at h.log
 have hpl := h.plen
 have hb := h.end_in
 obtain ⟨hk,hke⟩ := List.getElem?_eq_some_iff.1 hp
 have hpk := (h.peers hr).2 p (List.mem_of_getElem? hp)
 obtain ⟨g1,g2,g3⟩ := peer_at hpk hb
 have hmt : 0 ≤ imax p.Match (imin i (logEnd n.Log)) ∧ imax p.Match (imin i (logEnd n.Log)) ≤ logEnd n.Log := by
  unfold imax imin
  split <;> split <;> omega
 have hqo : peerOk (logEnd n.Log) (nextPeer n.Log p i) = true := peer_mk hb (by simp only [nextPeer]; omega) (by simp only [nextPeer]; omega) (by simp only [nextPeer]; omega)
 have hR := h.setPeer hr hp (q := nextPeer n.Log p i) rfl hqo
 have hcs := commit_impl N hN (withPeers n (n.Peers.set k (nextPeer n.Log p i))) [] hR.log (by have := hR.tot; omega) (by have := hR.plen; omega) (by have := hR.clen; omega) hR.com (hR.voted (by show n.Role ≠ 1; omega))
 have hC := hR.commit
 unfold c_matched i_last
 simp only [at_lt hk,hke,bO,Int.toNat_natCast,List.set_set]
 rw [w64_id (n := n.Log.Start + n.Log.Entries.length) (by omega) (by omega),show n.Log.Start + (n.Log.Entries.length : Int) = logEnd n.Log from rfl,w64_id (n := imax p.Match (imin i (logEnd n.Log)) + 1) (by omega) (by omega)]
 rw [show (Node.mk n.Id n.Term n.Vote n.Role n.Lead n.Conf n.Log n.Commit n.Clock n.Limit n.Votes (n.Peers.set k (Peer.mk p.Id (imax p.Match (imin i (logEnd n.Log)) + 1) (imax p.Match (imin i (logEnd n.Log))) p.Sent))) = withPeers n (n.Peers.set k (nextPeer n.Log p i)) from rfl,hcs,bO]
 have hlog : (commitN (withPeers n (n.Peers.set k (nextPeer n.Log p i)))).Log = n.Log := by rw [commitN_log]; rfl
 have hq : (n.Peers.set k (nextPeer n.Log p i))[k]? = some (nextPeer n.Log p i) := by rw [List.getElem?_set_self hk]
 simp only
 rw [pix2 N hN p.Id _ (by have := hC.plen; omega),bO]
 rcases commitN_two (n := withPeers n (n.Peers.set k (nextPeer n.Log p i))) hr with ⟨c1,c2⟩ | ⟨c1,c2⟩
 ·have c2' : (commitN (withPeers n (n.Peers.set k (nextPeer n.Log p i)))).Peers = n.Peers.set k (nextPeer n.Log p i) := c2
  have hnd : ((n.Peers.set k (nextPeer n.Log p i)).map (·.Id)).Nodup := by
   have := (hR.peers hr).1
   have e : (withPeers n (n.Peers.set k (nextPeer n.Log p i))).Peers = n.Peers.set k (nextPeer n.Log p i) := rfl
   rw [e] at this
   rw [this]
   exact others_nodup hR.cof
  have hv : ixV p.Id (commitN (withPeers n (n.Peers.set k (nextPeer n.Log p i)))).Peers = (k : Int) := by
   unfold ixV
   rw [c2',ixR_at p.Id _ k 0 (nextPeer n.Log p i) hnd hq rfl,Nat.zero_add]
  have hat : at? (commitN (withPeers n (n.Peers.set k (nextPeer n.Log p i)))).Peers (k : Int) = some (nextPeer n.Log p i) := by
   rw [c2']
   exact at_set hk _
  have hsd := send_impl N hN (commitN (withPeers n (n.Peers.set k (nextPeer n.Log p i)))) [] k (nextPeer n.Log p i) (by rw [c2']; exact hq) hC.log (by rw [hlog]; exact hqo) (by simp) (by have := hC.clen; omega)
  generalize commitN (withPeers n (n.Peers.set k (nextPeer n.Log p i))) = C at c1 c2' hlog hC hv hat hsd ⊢
  have hcl : Node.mk C.Id C.Term C.Vote C.Role C.Lead C.Conf (Log.mk n.Log.Start n.Log.StartTerm n.Log.Entries) C.Commit C.Clock C.Limit C.Votes C.Peers = C := by
   rw [show Log.mk n.Log.Start n.Log.StartTerm n.Log.Entries = C.Log from hlog.symm]
  rw [hv,if_pos (by simp),hat,bO,hlog,w64_id (n := n.Log.Start + n.Log.Entries.length) (by omega) (by omega),show n.Log.Start + (n.Log.Entries.length : Int) = logEnd n.Log from rfl]
  by_cases hx : (nextPeer n.Log p i).Next ≤ logEnd n.Log
  ·rw [if_pos (decide_eq_true hx),if_pos ⟨c1,hx⟩,hsd,bO]
   simp only [List.nil_append,hlog]
   rw [hcl]
  ·rw [if_neg (show ¬ (decide ((nextPeer n.Log p i).Next ≤ logEnd n.Log) = true) by simpa using hx),if_neg (fun e => hx e.2)]
 ·have hv : ixV p.Id (commitN (withPeers n (n.Peers.set k (nextPeer n.Log p i)))).Peers = -1 := by
   rw [c2]
   rfl
  rw [hv,if_neg (by decide),if_neg (fun e => c1 e.1)]
def noPeerI (n : Node) (m : Message) (p : Peer) : Peer := if m.Kind = 6 then ⟨p.Id,p.Next,p.Match,if m.Index = n.Log.Start then imin m.Commit 20000 else 0⟩ else ⟨p.Id,nextOf m p,p.Match,p.Sent⟩
def replyToI (n : Node) (m : Message) (k : Nat) (p : Peer) : Node × List Message :=
 if m.Ok = true then (commitN (withPeers n (n.Peers.set k (okPeer n m p))),if (commitN (withPeers n (n.Peers.set k (okPeer n m p)))).Role = 2 ∧ mtOf n m p + 1 ≤ logEnd n.Log then [sendMsg (commitN (withPeers n (n.Peers.set k (okPeer n m p)))) (okPeer n m p)] else [])
 else (withPeers n (n.Peers.set k (noPeerI n m p)),[sendMsg (withPeers n (n.Peers.set k (noPeerI n m p))) (noPeerI n m p)])
def replyI (n : Node) (m : Message) : Node × List Message :=
 if m.Term ≠ n.Term then (n,[]) else if n.Role ≠ 2 then (n,[]) else
 if lastIx m.From n.Peers 0 (-1) < 0 then (n,[]) else
 match n.Peers[(lastIx m.From n.Peers 0 (-1)).toNat]? with
 | some p => replyToI n m (lastIx m.From n.Peers 0 (-1)).toNat p
 | none => (n,[])
theorem set_same {ps : List Peer} {j : Nat} {p : Peer} (h : ps[j]? = some p) : ps.set j p = ps := by
 obtain ⟨hk,rfl⟩ := List.getElem?_eq_some_iff.1 h
 exact List.set_getElem_self hk
theorem reply_impl (N : Nat) (hN : Big N) (n : Node) (m : Message) (h : Right n) (hm : MsgRight m) (hkd : m.Kind = 4 ∨ m.Kind = 6) : c_reply N ⟨n,[]⟩ m = some ⟨(replyI n m).1,(replyI n m).2⟩ := by
 obtain ⟨a1,a2,a3,a4,a5,a6,a7⟩ := logOk_at h.log
 have hpl := h.plen
 have hcl := h.clen
 have hb := h.end_in
 have hix := hm.index
 have hcm := hm.commit
 unfold c_reply replyI
 simp only [joinP]
 rw [pix1 N hN m n.Peers (by omega),bO]
 by_cases h1 : m.Term = n.Term
 ·rw [if_neg (show ¬ ((m.Term != n.Term) = true) by simpa using h1),if_neg (not_not_intro h1)]
  by_cases h2 : n.Role = 2
  ·rw [if_neg (show ¬ ((n.Role != (2 : Int)) = true) by simpa using h2),if_neg (not_not_intro h2)]
   have hnd : (n.Peers.map (·.Id)).Nodup := by
    rw [(h.peers h2).1]
    exact others_nodup h.cof
   have hv0 : ixV m.From n.Peers = lastIx m.From n.Peers 0 (-1) := (lastIx_ixR m.From n.Peers 0 (-1) hnd).symm
   rw [hv0]
   rcases lastIx_in m.From n.Peers 0 (-1) with hv | ⟨j,hj,hv⟩
   ·rw [hv,if_pos (show decide ((-1 : Int) < (0 : Int)) = true from rfl),if_pos (show (-1 : Int) < 0 by decide)]
   ·rw [hv,if_neg (show ¬ (decide (((0 + j : Nat) : Int) < (0 : Int)) = true) by rw [decide_eq_true_eq]; omega),if_neg (show ¬ (((0 + j : Nat) : Int) < 0) by omega)]
    simp only [Nat.zero_add]
    rw [at_lt hj,bO,Int.toNat_natCast,List.getElem?_eq_getElem hj]
    simp only
    have hp := (h.peers h2).2 n.Peers[j] (List.getElem_mem hj)
    have hpj : n.Peers[j]? = some n.Peers[j] := List.getElem?_eq_getElem hj
    generalize n.Peers[j] = p at hp hpj
    obtain ⟨g1,g2,g3⟩ := peer_at hp hb
    unfold replyToI
    have hmt : ∀ q : Peer,q.Match = p.Match → imax q.Match (imin m.Index (logEnd n.Log)) = mtOf n m p := by
     intro q hq
     rw [hq]
     rfl
    cases hok : m.Ok with
    | true =>
     rw [if_pos rfl,if_pos rfl]
     by_cases k6 : m.Kind = 6
     ·rw [if_pos (show (m.Kind == (6 : Int)) = true by simpa using k6)]
      have hR := h.setPeer h2 hpj (q := ⟨p.Id,p.Next,p.Match,0⟩) rfl (peer_mk hb g1 g2 (by simp only; omega))
      have hM := matched_impl N hN (withPeers n (n.Peers.set j ⟨p.Id,p.Next,p.Match,0⟩)) hR h2 (k := j) (p := ⟨p.Id,p.Next,p.Match,0⟩) (by show (n.Peers.set j _)[j]? = _; rw [List.getElem?_set_self hj]) m.Index hix
      have e : nextPeer n.Log ⟨p.Id,p.Next,p.Match,0⟩ m.Index = okPeer n m p := by
       unfold nextPeer okPeer
       rw [if_pos k6,hmt _ rfl]
      have eL : (withPeers n (n.Peers.set j ⟨p.Id,p.Next,p.Match,0⟩)).Log = n.Log := rfl
      rw [eL,e] at hM
      have e2 : withPeers (withPeers n (n.Peers.set j ⟨p.Id,p.Next,p.Match,0⟩)) ((withPeers n (n.Peers.set j ⟨p.Id,p.Next,p.Match,0⟩)).Peers.set j (okPeer n m p)) = withPeers n (n.Peers.set j (okPeer n m p)) := by
       show withPeers n ((n.Peers.set j _).set j (okPeer n m p)) = _
       rw [List.set_set]
      rw [e2] at hM
      refine (congrArg (fun o => o.bind fun y => some y) (show c_matched N _ _ _ = _ from hM)).trans ?_
      rfl
     ·rw [if_neg (show ¬ ((m.Kind == (6 : Int)) = true) by simpa using k6)]
      have hM := matched_impl N hN n h h2 hpj m.Index hix
      have e : nextPeer n.Log p m.Index = okPeer n m p := by
       unfold nextPeer okPeer
       rw [if_neg k6,hmt _ rfl]
      rw [e] at hM
      refine (congrArg (fun o => o.bind fun y => some y) (show c_matched N _ _ _ = _ from hM)).trans ?_
      rfl
    | false =>
     rw [if_neg (show ¬ (false = true) by decide),if_neg (show ¬ (false = true) by decide)]
     have hsend : ∀ q : Peer,q.Id = p.Id → peerOk (logEnd n.Log) q = true → q = noPeerI n m p → ∀ X : List Peer,X = n.Peers.set j q →
       ((c_send N (TK.mk (Node.mk n.Id n.Term n.Vote n.Role n.Lead n.Conf n.Log n.Commit n.Clock n.Limit n.Votes X) []) (j : Int)).bind fun y => some (TK.mk (Node.mk y.n.Id y.n.Term y.n.Vote y.n.Role y.n.Lead n.Conf (Log.mk y.n.Log.Start y.n.Log.StartTerm n.Log.Entries) y.n.Commit y.n.Clock y.n.Limit n.Votes X) y.out)) = some ⟨withPeers n (n.Peers.set j (noPeerI n m p)),[sendMsg (withPeers n (n.Peers.set j (noPeerI n m p))) (noPeerI n m p)]⟩ := by
      intro q hq1 hq2 hq3 X hX
      subst hX
      have hR := h.setPeer h2 hpj hq1 hq2
      have hs := send_impl N hN (withPeers n (n.Peers.set j q)) [] j q (by show (n.Peers.set j q)[j]? = _; rw [List.getElem?_set_self hj]) hR.log hq2 (by simp) (by have := hR.clen; omega)
      rw [← hq3]
      refine bind_of (show c_send N _ _ = _ from hs) ?_
      rfl
     rcases hkd with k4 | k6
     ·have k6 : ¬ m.Kind = 6 := by omega
      rw [if_pos (show (m.Kind == (4 : Int)) = true by simpa using k4),w64_id (n := m.Index + 1) (by omega) (by omega),w64_id (n := p.Match + 1) (by omega) (by omega)]
      have hnx := nextOf_in (m := m) g2
      have hok4 : peerOk (logEnd n.Log) ⟨p.Id,nextOf m p,p.Match,p.Sent⟩ = true := peer_mk hb (by simp only; omega) (by simp only; omega) g3
      have e4 : (⟨p.Id,nextOf m p,p.Match,p.Sent⟩ : Peer) = noPeerI n m p := by
       unfold noPeerI
       rw [if_neg k6]
      by_cases c : imax (m.Index + 1) (p.Match + 1) < p.Next
      ·rw [if_pos (decide_eq_true c)]
       have en : nextOf m p = imax (m.Index + 1) (p.Match + 1) := by
        unfold nextOf
        exact if_pos c
       refine hsend ⟨p.Id,nextOf m p,p.Match,p.Sent⟩ rfl hok4 e4 _ ?_
       rw [en]
      ·rw [if_neg (show ¬ (decide (imax (m.Index + 1) (p.Match + 1) < p.Next) = true) by simpa using c)]
       have en : nextOf m p = p.Next := by
        unfold nextOf
        exact if_neg c
       refine hsend ⟨p.Id,nextOf m p,p.Match,p.Sent⟩ rfl hok4 e4 _ ?_
       rw [en]
       exact (set_same hpj).symm
     ·rw [if_neg (show ¬ ((m.Kind == (4 : Int)) = true) by simp [k6])]
      have hmin : 0 ≤ imin m.Commit 20000 ∧ imin m.Commit 20000 ≤ 20000 := by
       unfold imin
       split <;> omega
      have e6 : ∀ s : Int,s = (if m.Index = n.Log.Start then imin m.Commit 20000 else 0) → (⟨p.Id,p.Next,p.Match,s⟩ : Peer) = noPeerI n m p := by
       intro s hs
       unfold noPeerI
       rw [if_pos k6,hs]
      by_cases c : m.Index = n.Log.Start
      ·rw [if_pos (show (m.Index == n.Log.Start) = true by simpa using c)]
       refine hsend ⟨p.Id,p.Next,p.Match,imin m.Commit 20000⟩ rfl (peer_mk hb g1 g2 hmin) (e6 _ (by rw [if_pos c])) _ ?_
       rw [List.set_set]
      ·rw [if_neg (show ¬ ((m.Index == n.Log.Start) = true) by simpa using c)]
       exact hsend ⟨p.Id,p.Next,p.Match,0⟩ rfl (peer_mk hb g1 g2 (by simp only; omega)) (e6 _ (by rw [if_neg c])) _ rfl
  ·rw [if_pos (show (n.Role != (2 : Int)) = true by simpa using h2),if_pos h2]
 ·rw [if_pos (show (m.Term != n.Term) = true by simpa using h1),if_pos h1]
def recJ (N : Nat) (a : Node) (m : Message) : Option (Node × List Message × Bool) :=
 if (m.Kind == 1) = true then
  (c_askVote N ⟨a,[]⟩ m).bind fun y => some (Node.mk y.n.Id y.n.Term y.n.Vote y.n.Role y.n.Lead a.Conf (Log.mk y.n.Log.Start y.n.Log.StartTerm a.Log.Entries) y.n.Commit y.n.Clock y.n.Limit a.Votes a.Peers,y.out,true)
 else if (m.Kind == 2) = true then
  (c_tellVote N ⟨a,[]⟩ m).bind fun y => some (y.n,y.out,true)
 else if (m.Kind == 3) = true then
  (c_askAppend N ⟨a,[]⟩ m).bind fun y => some (y.n,y.out,true)
 else if (m.Kind == 5) = true then
  (if (decide (m.Term ≥ a.Term)) = true then
   (c_follows N ⟨a,[]⟩ m.From).bind fun y => some (Node.mk y.n.Id y.n.Term y.n.Vote y.n.Role y.n.Lead a.Conf (Log.mk y.n.Log.Start y.n.Log.StartTerm a.Log.Entries) y.n.Commit y.n.Clock y.n.Limit y.n.Votes y.n.Peers,[],true)
  else some (a,[],true))
 else
  (c_reply N ⟨a,[]⟩ m).bind fun y => some (y.n,y.out,true)
theorem receive_idef (N : Nat) (n : Node) (m : Message) : i_Receive N n m =
  (i_NodeOk N n).bind fun y => if (!y) = true then some (zNode,[],false) else
  (i_MessageOk N m).bind fun z => if (!z) = true then some (zNode,[],false) else
  if (m.To != n.Id) = true then some (zNode,[],false) else
  (i_copyNode N n).bind fun c => if decide (m.Term > n.Term) = true then recJ N ⟨c.Id,m.Term,0,0,0,c.Conf,c.Log,c.Commit,c.Clock,c.Limit,[],[]⟩ m else recJ N c m := by
 unfold i_Receive joinP recJ zNode
 rfl
def recvBodyI (n : Node) (m : Message) : Node × List Message :=
 if m.Kind = 1 then askVoteN n m else if m.Kind = 2 then tellVoteN n m else if m.Kind = 3 then askAppendN n m else if m.Kind = 4 ∨ m.Kind = 6 then replyI n m else installN n m
def recvI (n : Node) (m : Message) : Node × List Message × Bool :=
 if nodeOk n = false then (zNode,[],false) else if messageOk m = false then (zNode,[],false) else if m.To ≠ n.Id then (zNode,[],false) else
 ((recvBodyI (stepUp n m) m).1,(recvBodyI (stepUp n m) m).2,true)
theorem recJ_ok (N : Nat) (hN : Big N) (n : Node) (m : Message) (hR : Right n) (hm : MsgRight m) : recJ N n m = some ((recvBodyI n m).1,(recvBodyI n m).2,true) := by
 unfold recJ recvBodyI
 by_cases k1 : m.Kind = 1
 ·rw [if_pos (show (m.Kind == (1 : Int)) = true by simpa using k1),if_pos k1]
  refine bind_of (askVote_impl N n m hR.log) ?_
  unfold askVoteN voted
  split <;> rfl
 rw [if_neg (show ¬ ((m.Kind == (1 : Int)) = true) by simpa using k1),if_neg k1]
 by_cases k2 : m.Kind = 2
 ·rw [if_pos (show (m.Kind == (2 : Int)) = true by simpa using k2),if_pos k2]
  exact bind_of (tellVote_impl N hN n m hR hm) rfl
 rw [if_neg (show ¬ ((m.Kind == (2 : Int)) = true) by simpa using k2),if_neg k2]
 by_cases k3 : m.Kind = 3
 ·rw [if_pos (show (m.Kind == (3 : Int)) = true by simpa using k3),if_pos k3]
  exact bind_of (askAppend_impl N hN n m hR hm) rfl
 rw [if_neg (show ¬ ((m.Kind == (3 : Int)) = true) by simpa using k3),if_neg k3]
 by_cases k5 : m.Kind = 5
 ·rw [if_pos (show (m.Kind == (5 : Int)) = true by simpa using k5),if_neg (show ¬ (m.Kind = 4 ∨ m.Kind = 6) by omega)]
  unfold installN
  by_cases c : m.Term ≥ n.Term
  ·rw [if_pos (show decide (m.Term ≥ n.Term) = true from decide_eq_true c)]
   simp only [if_pos c]
   rfl
  ·rw [if_neg (show ¬ (decide (m.Term ≥ n.Term) = true) from fun e => c (of_decide_eq_true e))]
   simp only [if_neg c]
 rw [if_neg (show ¬ ((m.Kind == (5 : Int)) = true) by simpa using k5)]
 have hk : m.Kind = 4 ∨ m.Kind = 6 := by have := hm.kind; omega
 rw [if_pos hk]
 exact bind_of (reply_impl N hN n m hR hm hk) rfl
theorem receive_impl (N : Nat) (hN : Big N) (n : Node) (m : Message) (h : totNode n ≤ 1099511627) (htm : totMessage m ≤ 1099511627) : i_Receive N n m = some (recvI n m) := by
 rw [receive_idef]
 unfold recvI
 rw [nodeOk_impl N hN n h,bO]
 cases hk : nodeOk n with
 | false => rfl
 | true =>
  have hr := right_of hk
  rw [if_neg (show ¬ ((!true) = true) by decide),if_neg (show ¬ (true = false) by decide),messageOk_impl N hN m htm,bO]
  cases hmk : messageOk m with
  | false => rfl
  | true =>
   have hm := msg_of hmk
   rw [if_neg (show ¬ ((!true) = true) by decide),if_neg (show ¬ (true = false) by decide)]
   by_cases hto : m.To = n.Id
   ·rw [if_neg (show ¬ ((m.To != n.Id) = true) by simpa using hto),if_neg (not_not_intro hto),copy_impl N n h,bO]
    have hR := hr.stepUp hm
    by_cases ht : m.Term > n.Term
    ·have hs : stepUp n m = ⟨n.Id,m.Term,0,0,0,n.Conf,n.Log,n.Commit,n.Clock,n.Limit,[],[]⟩ := if_pos ht
     rw [if_pos (decide_eq_true ht),← hs,recJ_ok N hN (stepUp n m) m hR hm]
    ·have hs : stepUp n m = n := if_neg ht
     rw [if_neg (show ¬ (decide (m.Term > n.Term) = true) by simpa using ht)]
     have := recJ_ok N hN (stepUp n m) m hR hm
     rw [hs] at this ⊢
     exact this
   ·rw [if_pos (show (m.To != n.Id) = true by simpa using hto),if_pos hto]
theorem noPeer_same {n : Node} {m : Message} (h6 : m.Kind = 6 → m.Commit ≤ 20000) (p : Peer) : noPeerI n m p = noPeer n m p := by
 unfold noPeerI noPeer
 by_cases k6 : m.Kind = 6
 ·have hc := h6 k6
  have : imin m.Commit 20000 = m.Commit := by unfold imin; split <;> omega
  rw [if_pos k6,if_pos k6,this]
  by_cases c : m.Index = n.Log.Start
  ·rw [if_pos c,if_pos ⟨c,hc⟩]
  ·rw [if_neg c,if_neg (fun e => c e.1)]
 ·rw [if_neg k6,if_neg k6]
theorem body_eq {n : Node} {m : Message} (h6 : m.Kind = 6 → m.Commit ≤ 20000) : recvBodyI n m = recvBody n m := by
 have : replyI n m = replyN n m := by
  unfold replyI replyN replyToI replyTo
  simp only [noPeer_same h6]
 unfold recvBodyI recvBody
 rw [this]
def Mono (n a : Node) : Prop := a.Id = n.Id ∧ n.Term ≤ a.Term ∧ n.Commit ≤ a.Commit ∧ (a.Term = n.Term → n.Vote ≠ 0 → a.Vote = n.Vote)
theorem mono_same {n a : Node} (h1 : a.Id = n.Id) (h2 : a.Term = n.Term) (h3 : n.Commit ≤ a.Commit) (h4 : a.Vote = n.Vote) : Mono n a := ⟨h1,by omega,h3,fun _ _ => h4⟩
theorem commitN_vote (n : Node) : (commitN n).Vote = n.Vote := by unfold commitN; split <;> rfl
theorem leadN_mono {n : Node} (h : n.Commit ≤ logEnd n.Log) : Mono n (leadN n) := by
 have hg : n.Log.Entries.length ≤ (grown n).length := by
  unfold grown
  split
  ·rw [List.length_append]; omega
  ·exact Nat.le_refl _
 have hc : (lead0 n).Commit ≤ logEnd (lead0 n).Log := by
  show n.Commit ≤ n.Log.Start + ((grown n).length : Int)
  simp only [logEnd] at h
  omega
 have := (commitN_le hc).1
 refine mono_same ?_ ?_ ?_ ?_
 ·exact (commitN_id _).trans rfl
 ·exact (commitN_term _).trans rfl
 ·exact this
 ·exact (commitN_vote _).trans rfl
theorem body_mono {n : Node} (h : Right n) {m : Message} : Mono n (recvBody n m).1 := by
 have hc := h.com.2
 have hrefl : ∀ a : Node,a.Id = n.Id → a.Term = n.Term → a.Commit = n.Commit → a.Vote = n.Vote → Mono n a := fun a h1 h2 h3 h4 => mono_same h1 h2 (by omega) h4
 unfold recvBody
 split
 ·unfold askVoteN voted
  simp only
  split
  ·rename_i hv
   unfold voteOk at hv
   rw [decide_eq_true_eq] at hv
   refine ⟨rfl,Int.le_refl _,Int.le_refl _,fun _ hn => ?_⟩
   rcases hv.2.1 with e | e
   ·exact absurd e hn
   ·exact e.symm
  ·exact hrefl _ rfl rfl rfl rfl
 split
 ·unfold tellVoteN
  split
  ·exact hrefl _ rfl rfl rfl rfl
  split
  ·exact hrefl _ rfl rfl rfl rfl
  split
  ·exact hrefl _ rfl rfl rfl rfl
  split
  ·exact leadN_mono (n := withVotes n (newVotes n m)) hc
  ·exact hrefl _ rfl rfl rfl rfl
 split
 ·have happ : ∀ (k : Int) (l : List Entry),Mono n (appN n m k l).1 := fun k l => mono_same rfl rfl (comWith_in n m k).1 rfl
  unfold askAppendN
  split
  ·exact hrefl _ rfl rfl rfl rfl
  split
  ·exact hrefl _ rfl rfl rfl rfl
  split
  ·split
   ·exact hrefl _ rfl rfl rfl rfl
   split
   ·exact hrefl _ rfl rfl rfl rfl
   ·exact happ _ _
  ·exact happ _ _
 split
 ·unfold replyN
  split
  ·exact hrefl _ rfl rfl rfl rfl
  split
  ·exact hrefl _ rfl rfl rfl rfl
  split
  ·exact hrefl _ rfl rfl rfl rfl
  cases n.Peers[(lastIx m.From n.Peers 0 (-1)).toNat]? with
  | none => exact hrefl _ rfl rfl rfl rfl
  | some p =>
   simp only
   unfold replyTo
   split
   ·exact mono_same ((commitN_id _).trans rfl) ((commitN_term _).trans rfl) (commitN_le (n := withPeers n (n.Peers.set (lastIx m.From n.Peers 0 (-1)).toNat (okPeer n m p))) hc).1 ((commitN_vote _).trans rfl)
   ·exact hrefl _ rfl rfl rfl rfl
 ·unfold installN
  split <;> exact hrefl _ rfl rfl rfl rfl
theorem recv_mono {n : Node} (h : Right n) {m : Message} (hm : MsgRight m) : Mono n (recvBody (stepUp n m) m).1 := by
 have hR := h.stepUp hm
 obtain ⟨b1,b2,b3,b4⟩ := body_mono hR (m := m)
 have u := stepUp_id n m
 have ut := (stepUp_le n m).2
 have uc : (stepUp n m).Commit = n.Commit := by unfold stepUp; split <;> rfl
 refine ⟨b1.trans u,by omega,by omega,fun ht hv => ?_⟩
 by_cases hs : m.Term > n.Term
 ·have : (stepUp n m).Term = m.Term := by unfold stepUp; rw [if_pos hs]
  omega
 ·have e : stepUp n m = n := if_neg hs
  rw [e] at b4 ht ⊢
  exact b4 ht hv
theorem tick_mono {n : Node} (h : Right n) {l : Int} (hok : (tickN n l).2.2 = true) : Mono n (tickN n l).1 := by
 have hrefl : ∀ a : Node,a.Id = n.Id → a.Term = n.Term → a.Commit = n.Commit → a.Vote = n.Vote → Mono n a := fun a h1 h2 h3 h4 => mono_same h1 h2 (by omega) h4
 revert hok
 unfold tickN
 split
 ·intro e; cases e
 split
 ·intro e; cases e
 intro _
 split
 ·exact hrefl _ rfl rfl rfl rfl
 split
 ·exact hrefl _ rfl rfl rfl rfl
 split
 ·exact hrefl _ rfl rfl rfl rfl
 split
 ·exact hrefl _ rfl rfl rfl rfl
 split
 ·have := leadN_mono (n := cand n l) h.com.2
  obtain ⟨m1,m2,m3,_⟩ := this
  have ht : (cand n l).Term = n.Term + 1 := rfl
  refine ⟨m1.trans rfl,?_,m3,fun e => ?_⟩
  ·show n.Term ≤ (leadN (cand n l)).Term
   omega
  ·have e' : (leadN (cand n l)).Term = n.Term := e
   omega
 ·have ht : (cand n l).Term = n.Term + 1 := rfl
  refine ⟨rfl,by simp only; omega,Int.le_refl _,fun e => ?_⟩
  simp only at e
  omega
theorem tick_yes {n : Node} (h : Right n) {l : Int} (hl : 1 ≤ l ∧ l ≤ 20) : (tickN n l).2.2 = true := by
 unfold tickN
 rw [if_neg (by rw [h.ok]; decide),if_neg (by rw [decide_eq_true hl]; decide)]
 split
 ·rfl
 split
 ·rfl
 split
 ·rfl
 split
 ·rfl
 split <;> rfl
theorem nodes_l (N : Nat) (hN : Big N) (n : Node) (m : Message) (ns : List Node) (hlen : ns.length ≤ 1000) (h : ∀ x ∈ ns,Right x ∧ Mono n x) : ∀ (d f k : Nat),ns.length = k + d → d < f → laws_FnNodes_l1 N (n,m) ns f (k : Int) = some (.inr ()) := by
 intro d
 induction d with
 | zero =>
  intro f k hd hf
  obtain ⟨f,rfl⟩ : ∃ q,f = q + 1 := ⟨f - 1,by omega⟩
  rw [laws_FnNodes_l1,if_neg (by simp; omega)]
 | succ d ih =>
  intro f k hd hf
  obtain ⟨f,rfl⟩ : ∃ q,f = q + 1 := ⟨f - 1,by omega⟩
  have hk : k < ns.length := by omega
  obtain ⟨hr,t1,t2,t3,t4⟩ := h _ (List.getElem_mem hk)
  have hih := ih f (k + 1) (by omega) (by omega)
  have htot := hr.tot
  rw [laws_FnNodes_l1,if_pos (by simp; omega)]
  simp only [joinP]
  rw [at_lt hk,bO,nodeOk_impl N hN _ (by omega),bO,hr.ok,if_neg (by decide),w64_succ (by omega)]
  rw [if_neg (show ¬ ((ns[k].Id != n.Id) = true) by simpa using t1),if_neg (show ¬ (decide (ns[k].Term < n.Term) = true) by simpa using t2),if_neg (show ¬ (decide (ns[k].Commit < n.Commit) = true) by simpa using t3)]
  by_cases c1 : ns[k].Term = n.Term
  ·rw [if_pos (show (ns[k].Term == n.Term) = true by simpa using c1)]
   by_cases c2 : n.Vote = 0
   ·rw [if_neg (show ¬ ((n.Vote != 0) = true) by simpa using c2)]
    exact hih
   ·rw [if_pos (show (n.Vote != 0) = true by simpa using c2),if_neg (show ¬ ((ns[k].Vote != n.Vote) = true) by simpa using t4 c1 c2)]
    exact hih
  ·rw [if_neg (show ¬ ((ns[k].Term == n.Term) = true) by simpa using c1)]
   exact hih
theorem holds (x0 : (List Int)) (w0 : x0.length ≤ maxLen ∧ ∀ y ∈ x0,WI .u8 y) : ∃ N,laws_FnNodes N x0 = some true := by
 obtain ⟨N,hN⟩ : ∃ N,Big N := ⟨1099511627777,by decide⟩
 refine ⟨N,?_⟩
 unfold laws_FnNodes laws_big
 rw [bO]
 by_cases hb : (x0.length : Int) > 1048576
 ·rw [if_pos (by simpa using hb)]
 rw [if_neg (by simpa using hb)]
 obtain ⟨n,m,e1,hr,hto,htm,h6⟩ := drawNode_ok N hN x0 (by omega)
 obtain ⟨out,e2,ho,hy⟩ := places_ok N hN x0 (by omega)
 have hk : 0 < out.length := by omega
 have h1 := hy out[0] (List.getElem_mem hk)
 have e3 : at? out (0 : Int) = some out[0] := at_lt (xs := out) hk
 obtain ⟨r,e4,lr,ur⟩ := rem_lo out[0] h1.1 20 (by decide)
 have htn := hr.tot
 have hB : 1000 < N := by have := hN; unfold Big at this; omega
 have hty := tick_yes hr (l := 1 + r) (by omega)
 rw [e1,bO]
 simp only
 rw [nodeOk_impl N hN n (by omega),bO,hr.ok,if_neg (by decide),receive_impl N hN n m (by omega) (by omega),bO,e2,bO,e3,bO,e4,bO,w64_id (n := 1 + r) (by omega) (by omega),tick_impl N hN n (1 + r) (by omega),bO,receive_spec N hN n m (by omega) (by omega),bO]
 have hII : recvI n m = recvN n m := by
  unfold recvI recvN
  rw [body_eq h6]
 rw [hII,if_neg (by cases (recvN n m).2.2 <;> decide),hty,if_neg (by decide)]
 simp only [joinP]
 have hT : Right (tickN n (1 + r)).1 ∧ Mono n (tickN n (1 + r)).1 := ⟨(tick_right hr hty).1,tick_mono hr hty⟩
 have hfin : ∀ ns : List Node,ns.length ≤ 2 → (∀ x ∈ ns,Right x ∧ Mono n x) → (laws_FnNodes_l1 N (n,m) ns N 0).bind (Sum.elim (fun v => some v) (fun (_ : Unit) => some true)) = some true := by
  intro ns h2 h3
  have := nodes_l N hN n m ns (by omega) h3 ns.length N 0 (by omega) (by omega)
  rw [show (0 : Int) = ((0 : Nat) : Int) from rfl,this]
  rfl
 cases hok : (recvN n m).2.2 with
 | false =>
  rw [if_neg (by decide)]
  exact hfin _ (by simp) (fun x hx => by
   simp only [List.mem_singleton] at hx
   subst hx
   exact hT)
 | true =>
  rw [if_pos rfl,cat_ok (by simp),bO]
  obtain ⟨_,hm,_,q4,_,_⟩ := recv_right hok
  have hnk : ¬ (nodeOk n = false) := by rw [hr.ok]; decide
  have hM : Mono n (recvN n m).1 := by
   have hmk : ¬ (messageOk m = false) := by
    intro e
    unfold recvN at hok
    rw [if_neg hnk,if_pos e] at hok
    cases hok
   have h2 : recvN n m = ((recvBody (stepUp n m) m).1,(recvBody (stepUp n m) m).2,true) := by
    unfold recvN
    rw [if_neg hnk,if_neg hmk,if_neg (not_not_intro hto)]
   rw [h2]
   exact recv_mono hr hm
  exact hfin _ (by simp) (fun x hx => by
   rcases List.mem_append.1 hx with hx | hx
   ·simp only [List.mem_singleton] at hx
    subst hx
    exact hT
   ·simp only [List.mem_singleton] at hx
    subst hx
    exact ⟨q4,hM⟩)
end Go.Proofs.YtkojbcnafckofaaGreat.Pe.FnNodes
