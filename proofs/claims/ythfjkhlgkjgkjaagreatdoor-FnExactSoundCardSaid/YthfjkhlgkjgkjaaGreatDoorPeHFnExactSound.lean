import Derived.Test.YthfjkhlgkjgkjaaGreatDoorPeLib
import Derived.Test.YthfjkhlgkjgkjaaGreatDoorPeFFnExactSound2
namespace Go.Proofs.YthfjkhlgkjgkjaaGreatDoor.Pe.FnExactSound
open Go Go.RowKit
set_option linter.unusedVariables false
set_option linter.unusedSimpArgs false
set_option maxHeartbeats 40000000
theorem le_sum {α:Type}{f:α→Nat}{y:α}:∀{xs:List α},y∈xs→f y≤(xs.map f).sum
 |x::xs,h=>by
  rcases List.mem_cons.1 h with rfl|h
  ·simp
  ·have:=le_sum (f:=f) h
   simp only[List.map_cons,List.sum_cons]
   omega
theorem szB {β:Type}(t:Nat)(l:Int)(F:Int→Option (Int⊕β)):((some (if(t:Int)≤l then l-t else-1)).bind fun y=>if decide (y<0)=true then some (.inl (-1))else F y)=if(t:Int)≤l then F (l-t)else some (.inl (-1)):=by
 rw[Option.bind_some]
 by_cases h:(t:Int)≤l
 ·rw[IP h,IP h,IQ (by simp;omega)]
 ·rw[IQ h,IQ h,IP (by decide)]
theorem szL {α:Type}{t:α→Nat}{xs:List α}{N:Nat}{l:Int}(hN:Big N)(h0:0≤l)(h1:l≤1099511627776)(hl:xs.length≤maxLen)(f:Nat→Int→Int→Option (Int⊕Int))
  (hs:∀m k (hk:k<xs.length),k<9223372036854775807→∀l,0≤l→l≤1099511627776→f (m+1) l (k:Int)=if(t xs[k]:Int)≤l then f m (l-t xs[k]) ((k+1:Nat):Int)else some (.inl (-1)))
  (he:∀m l,f (m+1) l (xs.length:Int)=some (.inr l)):(if decide (w64 (l-(xs.length:Int))<0)=true then some (-1:Int)else(f N (w64 (l-(xs.length:Int))) 0).bind (Sum.elim (fun v=>some v) (fun v=>some v)))=some (if(totL t xs:Int)≤l then l-totL t xs else-1):=by
 have hM:=maxLen_le
 have key:∀d k m l,xs.length=k+d→d<m→0≤l→l≤1099511627776→f m l (k:Int)=some (if(((xs.drop k).map t).sum:Int)≤l then .inr (l-((xs.drop k).map t).sum)else .inl (-1)):=by
  intro d
  induction d with
  |zero=>
   intro k m l hd hm h0 h1
   obtain⟨m,rfl⟩:∃q,m=q+1:=⟨m-1,by omega⟩
   rw[show k=xs.length by omega,he,List.drop_length]
   simp[h0]
  |succ d ih=>
   intro k m l hd hm h0 h1
   obtain⟨m,rfl⟩:∃q,m=q+1:=⟨m-1,by omega⟩
   have hk:k<xs.length:=by omega
   rw[hs m k hk (by omega) l h0 h1,DG hk,List.map_cons,List.sum_cons]
   by_cases c1:(t xs[k]:Int)≤l
   ·rw[IP c1,ih (k+1) m _ (by omega) (by omega) (by omega) (by omega)]
    by_cases c2:(((xs.drop (k+1)).map t).sum:Int)≤l-t xs[k]
    ·rw[IP c2,IP (by omega)]
     congr 2
     omega
    ·rw[IQ c2,IQ (by omega)]
   ·rw[IQ c1,IQ (by omega)]
 rw[w64_id (by omega) (by omega)]
 by_cases c:l-(xs.length:Int)<0
 ·rw[IP (by simpa using c),IQ (by simp only[totL];omega)]
 ·have:=key xs.length 0 N (l-xs.length) (by omega) (by omega) (by omega) (by omega)
  rw[show((0:Nat):Int)=0 from rfl,List.drop_zero]at this
  rw[IQ (by simpa using c),this,Option.bind_some]
  by_cases c2:((xs.map t).sum:Int)≤l-xs.length
  ·rw[IP c2,IP (by simp only[totL];omega),Sum.elim_inr]
   simp only[totL]
   congr 1
   omega
  ·rw[IQ c2,IQ (by simp only[totL];omega)]
   rfl
theorem szE {l:Int}(h:0≤l):some l=some (if((0:Nat):Int)≤l then l-((0:Nat):Int)else-1):=by
 rw[IP (by omega)]
 simp
theorem szF {a b:Nat}{l:Int}(h:(a:Int)≤l):some (if(b:Int)≤l-a then l-a-(b:Int)else-1)=some (if((a+b:Nat):Int)≤l then l-((a+b:Nat):Int)else-1):=by
 congr 1
 split<;>split<;>omega
theorem szC {o:Option Int}{k:Int→Option Int}{a b:Nat}{l:Int}(ho:o=some (if(a:Int)≤l then l-a else-1))(hk:(a:Int)≤l→k (l-a)=some (if(b:Int)≤l-a then l-a-(b:Int)else-1)):(o.bind fun y=>if decide (y<0)=true then some (-1)else k y)=some (if((a+b:Nat):Int)≤l then l-((a+b:Nat):Int)else-1):=by
 rw[ho,Option.bind_some]
 by_cases h:(a:Int)≤l
 ·rw[IP h,IQ (by simp;omega),hk h,szF h]
 ·rw[IQ h,IP (by decide),IQ (by omega)]
theorem szW {a:Nat}{l:Int}(h0:0≤l)(h1:l≤1099511627776)(ha:a≤maxLen):w64 (l-(a:Int))=l-a:=by
 have hM:=maxLen_le
 exact w64_id (by omega) (by omega)
theorem szT {k:Option Int}{a b:Nat}{l:Int}(hk:(a:Int)≤l→k=some (if(b:Int)≤l-a then l-a-(b:Int)else-1)):(if decide (l-(a:Int)<0)=true then some (-1)else k)=some (if((a+b:Nat):Int)≤l then l-((a+b:Nat):Int)else-1):=by
 by_cases h:(a:Int)≤l
 ·rw[IQ (by simp;omega),hk h,szF h]
 ·rw[IP (by simp;omega),IQ (by omega)]
theorem tot_ge {α:Type}{t:α→Nat}{xs:List α}{b:Nat}(h:totL t xs≤b){k:Nat}(hk:k<xs.length):t xs[k]≤b:=by
 have:=le_sum (f:=t) (List.getElem_mem hk)
 simp only[totL]at h
 omega
theorem toL {α:Type}{t:α→Nat}{xs:List α}{N:Nat}(hN:Big N)(h:totL t xs≤1099511627)(f:Nat→Int→List α→Option (List α))
  (hs:∀m k (hk:k<xs.length),k<9223372036854775807→t xs[k]≤1099511627→∀acc:List α,k<acc.length→f (m+1) (k:Int) acc=f m ((k+1:Nat):Int) (acc.set k xs[k]))
  (he:∀m acc,f (m+1) (xs.length:Int) acc=some acc) (acc:List α) (ha:acc.length=xs.length):(f N 0 acc).bind (fun v=>some v)=some xs:=by
 have key:∀d k m (acc:List α),xs.length=k+d→d<m→acc.length=xs.length→f m (k:Int) acc=some (acc.take k++xs.drop k):=by
  intro d
  induction d with
  |zero=>
   intro k m acc hd hm ha
   obtain⟨m,rfl⟩:∃q,m=q+1:=⟨m-1,by omega⟩
   rw[show k=xs.length by omega,he,List.drop_length,List.append_nil,List.take_of_length_le (by omega)]
  |succ d ih=>
   intro k m acc hd hm ha
   obtain⟨m,rfl⟩:∃q,m=q+1:=⟨m-1,by omega⟩
   have hk:k<xs.length:=by omega
   simp only[totL]at h
   rw[hs m k hk (by omega) (tot_ge (t:=t) (b:=1099511627) (by simp only[totL];omega) hk) acc (by omega),ih (k+1) m _ (by omega) (by omega) (by rw[List.length_set];exact ha),take_set_succ (by omega),List.append_assoc,DG hk]
   rfl
 have:=key xs.length 0 N acc (by omega) (by simp only[totL]at h;omega) ha
 rw[show((0:Nat):Int)=0 from rfl]at this
 rw[this]
 simp
theorem eqL {α:Type}{t:α→Nat}{xs:List α}{N:Nat}(hN:Big N)(h:totL t xs≤1099511627)(f:Nat→Int→Option (Bool⊕Unit))
  (hs:∀m k (hk:k<xs.length),k<9223372036854775807→t xs[k]≤1099511627→f (m+1) (k:Int)=f m ((k+1:Nat):Int))
  (he:∀m,f (m+1) (xs.length:Int)=some (.inr ())):(if((xs.length:Int)!=(xs.length:Int))=true then some false else(f N 0).bind (Sum.elim (fun v=>some v) (fun _=>some true)))=some true:=by
 have key:∀d k m,xs.length=k+d→d<m→f m (k:Int)=some (.inr ()):=by
  intro d
  induction d with
  |zero=>
   intro k m hd hm
   obtain⟨m,rfl⟩:∃q,m=q+1:=⟨m-1,by omega⟩
   rw[show k=xs.length by omega,he]
  |succ d ih=>
   intro k m hd hm
   obtain⟨m,rfl⟩:∃q,m=q+1:=⟨m-1,by omega⟩
   have hk:k<xs.length:=by omega
   simp only[totL]at h
   rw[hs m k hk (by omega) (tot_ge (t:=t) (b:=1099511627) (by simp only[totL];omega) hk),ih (k+1) m (by omega) (by omega)]
 have:=key xs.length 0 N (by omega) (by simp only[totL]at h;omega)
 rw[show((0:Nat):Int)=0 from rfl]at this
 rw[IQ (by simp),this]
 rfl
def wfEntry (x:Entry):Prop:=(WI .i64 x.Term)∧(WI .i64 x.Kind)∧(x.Data.size≤maxLen)
def wfLog (x:Log):Prop:=(WI .i64 x.Start)∧(WI .i64 x.StartTerm)∧(x.Entries.length≤maxLen∧∀y∈x.Entries,wfEntry y)
def wfPeer (x:Peer):Prop:=(WI .i64 x.Id)∧(WI .i64 x.Next)∧(WI .i64 x.Match)∧(WI .i64 x.Sent)
def wfNode (x:Node):Prop:=(WI .i64 x.Id)∧(WI .i64 x.Term)∧(WI .i64 x.Vote)∧(WI .i64 x.Role)∧(WI .i64 x.Lead)∧(x.Conf.length≤maxLen∧∀y∈x.Conf,WI .i64 y)∧(wfLog x.Log)∧(WI .i64 x.Commit)∧(WI .i64 x.Clock)∧(WI .i64 x.Limit)∧(x.Votes.length≤maxLen∧∀y∈x.Votes,WI .i64 y)∧(x.Peers.length≤maxLen∧∀y∈x.Peers,wfPeer y)
def wfFile (x:File):Prop:=(x.Name.size≤maxLen)∧(x.Text.size≤maxLen)
def wfDisk (x:Disk):Prop:=(x.Files.length≤maxLen∧∀y∈x.Files,wfFile y)
def wfManifest (x:Manifest):Prop:=(x.Segs.length≤maxLen∧∀y∈x.Segs,WI .i64 y)∧(WI .i64 x.Next)∧(WI .i64 x.Base)∧(WI .i64 x.BaseTerm)∧(x.Conf.length≤maxLen∧∀y∈x.Conf,WI .i64 y)
def wfSpot (x:Spot):Prop:=(x.Key.size≤maxLen)∧(WI .i64 x.Seg)∧(WI .i64 x.At)∧(WI .i64 x.Size)
def wfShelf (x:Shelf):Prop:=(wfManifest x.Man)∧(x.Dir.length≤maxLen∧∀y∈x.Dir,wfSpot y)∧(WI .i64 x.Stamp)
def wfServer (x:Server):Prop:=(wfNode x.Node)∧(wfDisk x.Disk)∧(wfShelf x.Shelf)∧(x.Stage.size≤maxLen)∧(WI .i64 x.StageAt)∧(WI .i64 x.StageTerm)
def wfMessage (x:Message):Prop:=(WI .i64 x.Kind)∧(WI .i64 x.From)∧(WI .i64 x.To)∧(WI .i64 x.Term)∧(WI .i64 x.Index)∧(WI .i64 x.LogTerm)∧(WI .i64 x.Commit)∧(True)∧(x.Entries.length≤maxLen∧∀y∈x.Entries,wfEntry y)∧(x.Conf.length≤maxLen∧∀y∈x.Conf,WI .i64 y)∧(x.Data.size≤maxLen)∧(True)
def wfWait (x:Wait):Prop:=(WI .i64 x.Node)∧(WI .i64 x.Index)∧(WI .i64 x.Term)∧(WI .i64 x.Call)
def wfLeader (x:Leader):Prop:=(WI .i64 x.Node)∧(WI .i64 x.Term)∧(wfLog x.Log)
def wfApplied (x:Applied):Prop:=(WI .i64 x.Node)∧(WI .i64 x.Term)∧(WI .i64 x.Index)∧(wfEntry x.Entry)
def wfCommand (x:Command):Prop:=(WI .i64 x.Op)∧(WI .i64 x.Session)∧(WI .i64 x.Seq)∧(x.Key.size≤maxLen)∧(x.Value.size≤maxLen)∧(x.Old.size≤maxLen)
def wfReply (x:Reply):Prop:=(WI .i64 x.Call)∧(WI .i64 x.Index)∧(wfCommand x.Command)∧(x.Text.size≤maxLen)
def wfWorld (x:World):Prop:=(x.Up.length≤maxLen∧∀y∈x.Up,True)∧(x.Servers.length≤maxLen∧∀y∈x.Servers,wfServer y)∧(x.Net.length≤maxLen∧∀y∈x.Net,wfMessage y)∧(x.Waits.length≤maxLen∧∀y∈x.Waits,wfWait y)∧(x.Leaders.length≤maxLen∧∀y∈x.Leaders,wfLeader y)∧(x.Applied.length≤maxLen∧∀y∈x.Applied,wfApplied y)∧(x.Replies.length≤maxLen∧∀y∈x.Replies,wfReply y)
theorem sz_BoolS (N:Nat)(x:(List Bool))(l:Int)(h0:0≤l)(h1:l≤1099511627776)(w:x.length≤maxLen∧∀y∈x,True)(hN:Big N):w_szBoolS N x l=some (if((totL (fun _=>0)) x:Int)≤l then l-(totL (fun _=>0)) x else-1):=by
 have hM:=maxLen_le
 unfold w_szBoolS
 have e1:w64 (l-(x.length:Int))=l-x.length:=w64_id (by have:=w.1;omega) (by omega)
 rw[e1]
 by_cases c:l-(x.length:Int)<0
 ·rw[IP (by simpa using c),IQ (by simp only[totL];omega)]
 rw[IQ (by simpa using c)]
 have hs:(x.map (fun _=>0)).sum=0:=by
  clear e1 c w
  induction x with
  |nil=>rfl
  |cons y x ih=>simp[ih]
 rw[IP (by simp only[totL,hs];omega)]
 first
  |(simp only[totL,hs];done)
  |(simp only[totL,hs];congr 1;done)
  |(simp only[totL,hs];congr 1;omega)
theorem sz_IntS (N:Nat)(x:(List Int))(l:Int)(h0:0≤l)(h1:l≤1099511627776)(w:x.length≤maxLen∧∀y∈x,WI .i64 y)(hN:Big N):w_szIntS N x l=some (if((totL (fun _=>0)) x:Int)≤l then l-(totL (fun _=>0)) x else-1):=by
 have hM:=maxLen_le
 unfold w_szIntS
 have e1:w64 (l-(x.length:Int))=l-x.length:=w64_id (by have:=w.1;omega) (by omega)
 rw[e1]
 by_cases c:l-(x.length:Int)<0
 ·rw[IP (by simpa using c),IQ (by simp only[totL];omega)]
 rw[IQ (by simpa using c)]
 have hs:(x.map (fun _=>0)).sum=0:=by
  clear e1 c w
  induction x with
  |nil=>rfl
  |cons y x ih=>simp[ih]
 rw[IP (by simp only[totL,hs];omega)]
 first
  |(simp only[totL,hs];done)
  |(simp only[totL,hs];congr 1;done)
  |(simp only[totL,hs];congr 1;omega)
def totEntry (x:Entry):Nat:=ByteArray.size x.Data+(0)
theorem sz_Entry (N:Nat)(x:Entry)(l:Int)(h0:0≤l)(h1:l≤1099511627776)(w:wfEntry x)(hN:Big N):w_szEntry N x l=some (if(totEntry x:Int)≤l then l-totEntry x else-1):=by
 unfold w_szEntry totEntry
 rw[szW h0 h1 w.2.2]
 refine szT fun c=> ?_
 exact szE (by omega)
theorem sz_EntryS (N:Nat)(x:(List Entry))(l:Int)(h0:0≤l)(h1:l≤1099511627776)(w:x.length≤maxLen∧∀y∈x,wfEntry y)(hN:Big N):w_szEntryS N x l=some (if((totL totEntry) x:Int)≤l then l-(totL totEntry) x else-1):=szL hN h0 h1 w.1 (w_szEntryS_l1 N x) (fun m k hk hb l a b=>by rw[w_szEntryS_l1,IP (by simpa using hk),at_lt hk,Option.bind_some,sz_Entry N _ l a b (w.2 _ (List.getElem_mem hk)) hN,WS hb];exact szB _ _ _) fun m l=>by rw[w_szEntryS_l1,IQ (by simp)]
def totLog (x:Log):Nat:=(totL totEntry) x.Entries+(0)
theorem sz_Log (N:Nat)(x:Log)(l:Int)(h0:0≤l)(h1:l≤1099511627776)(w:wfLog x)(hN:Big N):w_szLog N x l=some (if(totLog x:Int)≤l then l-totLog x else-1):=by
 unfold w_szLog totLog
 refine szC (sz_EntryS N _ _ h0 h1 w.2.2 hN) fun c=> ?_
 exact szE (by omega)
def totPeer (x:Peer):Nat:=0
theorem sz_PeerS (N:Nat)(x:(List Peer))(l:Int)(h0:0≤l)(h1:l≤1099511627776)(w:x.length≤maxLen∧∀y∈x,wfPeer y)(hN:Big N):w_szPeerS N x l=some (if((totL totPeer) x:Int)≤l then l-(totL totPeer) x else-1):=by
 have hM:=maxLen_le
 unfold w_szPeerS
 have e1:w64 (l-(x.length:Int))=l-x.length:=w64_id (by have:=w.1;omega) (by omega)
 rw[e1]
 by_cases c:l-(x.length:Int)<0
 ·rw[IP (by simpa using c),IQ (by simp only[totL];omega)]
 rw[IQ (by simpa using c)]
 have hs:(x.map totPeer).sum=0:=by
  clear e1 c w
  induction x with
  |nil=>rfl
  |cons y x ih=>simp[ih,totPeer]
 rw[IP (by simp only[totL,hs];omega)]
 first
  |(simp only[totL,hs];done)
  |(simp only[totL,hs];congr 1;done)
  |(simp only[totL,hs];congr 1;omega)
def totNode (x:Node):Nat:=(totL (fun _=>0)) x.Conf+(totLog x.Log+((totL (fun _=>0)) x.Votes+((totL totPeer) x.Peers+(0))))
theorem sz_Node (N:Nat)(x:Node)(l:Int)(h0:0≤l)(h1:l≤1099511627776)(w:wfNode x)(hN:Big N):w_szNode N x l=some (if(totNode x:Int)≤l then l-totNode x else-1):=by
 unfold w_szNode totNode
 refine szC (sz_IntS N _ _ h0 h1 w.2.2.2.2.2.1 hN) fun c=> ?_
 refine szC (sz_Log N _ _ (by omega) (by omega) w.2.2.2.2.2.2.1 hN) fun c=> ?_
 refine szC (sz_IntS N _ _ (by omega) (by omega) w.2.2.2.2.2.2.2.2.2.2.1 hN) fun c=> ?_
 refine szC (sz_PeerS N _ _ (by omega) (by omega) w.2.2.2.2.2.2.2.2.2.2.2 hN) fun c=> ?_
 exact szE (by omega)
def totFile (x:File):Nat:=ByteArray.size x.Name+(ByteArray.size x.Text+(0))
theorem sz_File (N:Nat)(x:File)(l:Int)(h0:0≤l)(h1:l≤1099511627776)(w:wfFile x)(hN:Big N):w_szFile N x l=some (if(totFile x:Int)≤l then l-totFile x else-1):=by
 unfold w_szFile totFile
 rw[szW h0 h1 w.1]
 refine szT fun c=> ?_
 rw[szW (by omega) (by omega) w.2]
 refine szT fun c=> ?_
 exact szE (by omega)
theorem sz_FileS (N:Nat)(x:(List File))(l:Int)(h0:0≤l)(h1:l≤1099511627776)(w:x.length≤maxLen∧∀y∈x,wfFile y)(hN:Big N):w_szFileS N x l=some (if((totL totFile) x:Int)≤l then l-(totL totFile) x else-1):=szL hN h0 h1 w.1 (w_szFileS_l1 N x) (fun m k hk hb l a b=>by rw[w_szFileS_l1,IP (by simpa using hk),at_lt hk,Option.bind_some,sz_File N _ l a b (w.2 _ (List.getElem_mem hk)) hN,WS hb];exact szB _ _ _) fun m l=>by rw[w_szFileS_l1,IQ (by simp)]
def totDisk (x:Disk):Nat:=(totL totFile) x.Files+(0)
theorem sz_Disk (N:Nat)(x:Disk)(l:Int)(h0:0≤l)(h1:l≤1099511627776)(w:wfDisk x)(hN:Big N):w_szDisk N x l=some (if(totDisk x:Int)≤l then l-totDisk x else-1):=by
 unfold w_szDisk totDisk
 refine szC (sz_FileS N _ _ h0 h1 w hN) fun c=> ?_
 exact szE (by omega)
def totManifest (x:Manifest):Nat:=(totL (fun _=>0)) x.Segs+((totL (fun _=>0)) x.Conf+(0))
theorem sz_Manifest (N:Nat)(x:Manifest)(l:Int)(h0:0≤l)(h1:l≤1099511627776)(w:wfManifest x)(hN:Big N):w_szManifest N x l=some (if(totManifest x:Int)≤l then l-totManifest x else-1):=by
 unfold w_szManifest totManifest
 refine szC (sz_IntS N _ _ h0 h1 w.1 hN) fun c=> ?_
 refine szC (sz_IntS N _ _ (by omega) (by omega) w.2.2.2.2 hN) fun c=> ?_
 exact szE (by omega)
def totSpot (x:Spot):Nat:=ByteArray.size x.Key+(0)
theorem sz_Spot (N:Nat)(x:Spot)(l:Int)(h0:0≤l)(h1:l≤1099511627776)(w:wfSpot x)(hN:Big N):w_szSpot N x l=some (if(totSpot x:Int)≤l then l-totSpot x else-1):=by
 unfold w_szSpot totSpot
 rw[szW h0 h1 w.1]
 refine szT fun c=> ?_
 exact szE (by omega)
theorem sz_SpotS (N:Nat)(x:(List Spot))(l:Int)(h0:0≤l)(h1:l≤1099511627776)(w:x.length≤maxLen∧∀y∈x,wfSpot y)(hN:Big N):w_szSpotS N x l=some (if((totL totSpot) x:Int)≤l then l-(totL totSpot) x else-1):=szL hN h0 h1 w.1 (w_szSpotS_l1 N x) (fun m k hk hb l a b=>by rw[w_szSpotS_l1,IP (by simpa using hk),at_lt hk,Option.bind_some,sz_Spot N _ l a b (w.2 _ (List.getElem_mem hk)) hN,WS hb];exact szB _ _ _) fun m l=>by rw[w_szSpotS_l1,IQ (by simp)]
def totShelf (x:Shelf):Nat:=totManifest x.Man+((totL totSpot) x.Dir+(0))
theorem sz_Shelf (N:Nat)(x:Shelf)(l:Int)(h0:0≤l)(h1:l≤1099511627776)(w:wfShelf x)(hN:Big N):w_szShelf N x l=some (if(totShelf x:Int)≤l then l-totShelf x else-1):=by
 unfold w_szShelf totShelf
 refine szC (sz_Manifest N _ _ h0 h1 w.1 hN) fun c=> ?_
 refine szC (sz_SpotS N _ _ (by omega) (by omega) w.2.1 hN) fun c=> ?_
 exact szE (by omega)
def totServer (x:Server):Nat:=totNode x.Node+(totDisk x.Disk+(totShelf x.Shelf+(ByteArray.size x.Stage+(0))))
theorem sz_Server (N:Nat)(x:Server)(l:Int)(h0:0≤l)(h1:l≤1099511627776)(w:wfServer x)(hN:Big N):w_szServer N x l=some (if(totServer x:Int)≤l then l-totServer x else-1):=by
 unfold w_szServer totServer
 refine szC (sz_Node N _ _ h0 h1 w.1 hN) fun c=> ?_
 refine szC (sz_Disk N _ _ (by omega) (by omega) w.2.1 hN) fun c=> ?_
 refine szC (sz_Shelf N _ _ (by omega) (by omega) w.2.2.1 hN) fun c=> ?_
 rw[szW (by omega) (by omega) w.2.2.2.1]
 refine szT fun c=> ?_
 exact szE (by omega)
theorem sz_ServerS (N:Nat)(x:(List Server))(l:Int)(h0:0≤l)(h1:l≤1099511627776)(w:x.length≤maxLen∧∀y∈x,wfServer y)(hN:Big N):w_szServerS N x l=some (if((totL totServer) x:Int)≤l then l-(totL totServer) x else-1):=szL hN h0 h1 w.1 (w_szServerS_l1 N x) (fun m k hk hb l a b=>by rw[w_szServerS_l1,IP (by simpa using hk),at_lt hk,Option.bind_some,sz_Server N _ l a b (w.2 _ (List.getElem_mem hk)) hN,WS hb];exact szB _ _ _) fun m l=>by rw[w_szServerS_l1,IQ (by simp)]
def totMessage (x:Message):Nat:=(totL totEntry) x.Entries+((totL (fun _=>0)) x.Conf+(ByteArray.size x.Data+(0)))
theorem sz_Message (N:Nat)(x:Message)(l:Int)(h0:0≤l)(h1:l≤1099511627776)(w:wfMessage x)(hN:Big N):w_szMessage N x l=some (if(totMessage x:Int)≤l then l-totMessage x else-1):=by
 unfold w_szMessage totMessage
 refine szC (sz_EntryS N _ _ h0 h1 w.2.2.2.2.2.2.2.2.1 hN) fun c=> ?_
 refine szC (sz_IntS N _ _ (by omega) (by omega) w.2.2.2.2.2.2.2.2.2.1 hN) fun c=> ?_
 rw[szW (by omega) (by omega) w.2.2.2.2.2.2.2.2.2.2.1]
 refine szT fun c=> ?_
 exact szE (by omega)
theorem sz_MessageS (N:Nat)(x:(List Message))(l:Int)(h0:0≤l)(h1:l≤1099511627776)(w:x.length≤maxLen∧∀y∈x,wfMessage y)(hN:Big N):w_szMessageS N x l=some (if((totL totMessage) x:Int)≤l then l-(totL totMessage) x else-1):=szL hN h0 h1 w.1 (w_szMessageS_l1 N x) (fun m k hk hb l a b=>by rw[w_szMessageS_l1,IP (by simpa using hk),at_lt hk,Option.bind_some,sz_Message N _ l a b (w.2 _ (List.getElem_mem hk)) hN,WS hb];exact szB _ _ _) fun m l=>by rw[w_szMessageS_l1,IQ (by simp)]
def totWait (x:Wait):Nat:=0
theorem sz_WaitS (N:Nat)(x:(List Wait))(l:Int)(h0:0≤l)(h1:l≤1099511627776)(w:x.length≤maxLen∧∀y∈x,wfWait y)(hN:Big N):w_szWaitS N x l=some (if((totL totWait) x:Int)≤l then l-(totL totWait) x else-1):=by
 have hM:=maxLen_le
 unfold w_szWaitS
 have e1:w64 (l-(x.length:Int))=l-x.length:=w64_id (by have:=w.1;omega) (by omega)
 rw[e1]
 by_cases c:l-(x.length:Int)<0
 ·rw[IP (by simpa using c),IQ (by simp only[totL];omega)]
 rw[IQ (by simpa using c)]
 have hs:(x.map totWait).sum=0:=by
  clear e1 c w
  induction x with
  |nil=>rfl
  |cons y x ih=>simp[ih,totWait]
 rw[IP (by simp only[totL,hs];omega)]
 first
  |(simp only[totL,hs];done)
  |(simp only[totL,hs];congr 1;done)
  |(simp only[totL,hs];congr 1;omega)
def totLeader (x:Leader):Nat:=totLog x.Log+(0)
theorem sz_Leader (N:Nat)(x:Leader)(l:Int)(h0:0≤l)(h1:l≤1099511627776)(w:wfLeader x)(hN:Big N):w_szLeader N x l=some (if(totLeader x:Int)≤l then l-totLeader x else-1):=by
 unfold w_szLeader totLeader
 refine szC (sz_Log N _ _ h0 h1 w.2.2 hN) fun c=> ?_
 exact szE (by omega)
theorem sz_LeaderS (N:Nat)(x:(List Leader))(l:Int)(h0:0≤l)(h1:l≤1099511627776)(w:x.length≤maxLen∧∀y∈x,wfLeader y)(hN:Big N):w_szLeaderS N x l=some (if((totL totLeader) x:Int)≤l then l-(totL totLeader) x else-1):=szL hN h0 h1 w.1 (w_szLeaderS_l1 N x) (fun m k hk hb l a b=>by rw[w_szLeaderS_l1,IP (by simpa using hk),at_lt hk,Option.bind_some,sz_Leader N _ l a b (w.2 _ (List.getElem_mem hk)) hN,WS hb];exact szB _ _ _) fun m l=>by rw[w_szLeaderS_l1,IQ (by simp)]
def totApplied (x:Applied):Nat:=totEntry x.Entry+(0)
theorem sz_Applied (N:Nat)(x:Applied)(l:Int)(h0:0≤l)(h1:l≤1099511627776)(w:wfApplied x)(hN:Big N):w_szApplied N x l=some (if(totApplied x:Int)≤l then l-totApplied x else-1):=by
 unfold w_szApplied totApplied
 refine szC (sz_Entry N _ _ h0 h1 w.2.2.2 hN) fun c=> ?_
 exact szE (by omega)
theorem sz_AppliedS (N:Nat)(x:(List Applied))(l:Int)(h0:0≤l)(h1:l≤1099511627776)(w:x.length≤maxLen∧∀y∈x,wfApplied y)(hN:Big N):w_szAppliedS N x l=some (if((totL totApplied) x:Int)≤l then l-(totL totApplied) x else-1):=szL hN h0 h1 w.1 (w_szAppliedS_l1 N x) (fun m k hk hb l a b=>by rw[w_szAppliedS_l1,IP (by simpa using hk),at_lt hk,Option.bind_some,sz_Applied N _ l a b (w.2 _ (List.getElem_mem hk)) hN,WS hb];exact szB _ _ _) fun m l=>by rw[w_szAppliedS_l1,IQ (by simp)]
def totCommand (x:Command):Nat:=ByteArray.size x.Key+(ByteArray.size x.Value+(ByteArray.size x.Old+(0)))
theorem sz_Command (N:Nat)(x:Command)(l:Int)(h0:0≤l)(h1:l≤1099511627776)(w:wfCommand x)(hN:Big N):w_szCommand N x l=some (if(totCommand x:Int)≤l then l-totCommand x else-1):=by
 unfold w_szCommand totCommand
 rw[szW h0 h1 w.2.2.2.1]
 refine szT fun c=> ?_
 rw[szW (by omega) (by omega) w.2.2.2.2.1]
 refine szT fun c=> ?_
 rw[szW (by omega) (by omega) w.2.2.2.2.2]
 refine szT fun c=> ?_
 exact szE (by omega)
def totReply (x:Reply):Nat:=totCommand x.Command+(ByteArray.size x.Text+(0))
theorem sz_Reply (N:Nat)(x:Reply)(l:Int)(h0:0≤l)(h1:l≤1099511627776)(w:wfReply x)(hN:Big N):w_szReply N x l=some (if(totReply x:Int)≤l then l-totReply x else-1):=by
 unfold w_szReply totReply
 refine szC (sz_Command N _ _ h0 h1 w.2.2.1 hN) fun c=> ?_
 rw[szW (by omega) (by omega) w.2.2.2]
 refine szT fun c=> ?_
 exact szE (by omega)
theorem sz_ReplyS (N:Nat)(x:(List Reply))(l:Int)(h0:0≤l)(h1:l≤1099511627776)(w:x.length≤maxLen∧∀y∈x,wfReply y)(hN:Big N):w_szReplyS N x l=some (if((totL totReply) x:Int)≤l then l-(totL totReply) x else-1):=szL hN h0 h1 w.1 (w_szReplyS_l1 N x) (fun m k hk hb l a b=>by rw[w_szReplyS_l1,IP (by simpa using hk),at_lt hk,Option.bind_some,sz_Reply N _ l a b (w.2 _ (List.getElem_mem hk)) hN,WS hb];exact szB _ _ _) fun m l=>by rw[w_szReplyS_l1,IQ (by simp)]
def totWorld (x:World):Nat:=(totL (fun _=>0)) x.Up+((totL totServer) x.Servers+((totL totMessage) x.Net+((totL totWait) x.Waits+((totL totLeader) x.Leaders+((totL totApplied) x.Applied+((totL totReply) x.Replies+(0)))))))
theorem sz_World (N:Nat)(x:World)(l:Int)(h0:0≤l)(h1:l≤1099511627776)(w:wfWorld x)(hN:Big N):w_szWorld N x l=some (if(totWorld x:Int)≤l then l-totWorld x else-1):=by
 unfold w_szWorld totWorld
 refine szC (sz_BoolS N _ _ h0 h1 w.1 hN) fun c=> ?_
 refine szC (sz_ServerS N _ _ (by omega) (by omega) w.2.1 hN) fun c=> ?_
 refine szC (sz_MessageS N _ _ (by omega) (by omega) w.2.2.1 hN) fun c=> ?_
 refine szC (sz_WaitS N _ _ (by omega) (by omega) w.2.2.2.1 hN) fun c=> ?_
 refine szC (sz_LeaderS N _ _ (by omega) (by omega) w.2.2.2.2.1 hN) fun c=> ?_
 refine szC (sz_AppliedS N _ _ (by omega) (by omega) w.2.2.2.2.2.1 hN) fun c=> ?_
 refine szC (sz_ReplyS N _ _ (by omega) (by omega) w.2.2.2.2.2.2 hN) fun c=> ?_
 exact szE (by omega)
theorem to_BoolS (N:Nat)(x:(List Bool))(h:(totL (fun _=>0)) x≤1099511627)(hN:Big N):w_toBoolS N x=some x:=by
 unfold w_toBoolS
 rw[mk_some (by simp only[totL]at h;omega)]
 exact toL hN h (w_toBoolS_l1 N x) (fun m k hk hb ht acc ha=>by rw[w_toBoolS_l1,IP (by simpa using hk),at_lt hk,Option.bind_some,at_lt ha,Option.bind_some,WS hb];rfl) (fun m acc=>by rw[w_toBoolS_l1,IQ (by simp)]) _ (by simp)
theorem to_IntS (N:Nat)(x:(List Int))(h:(totL (fun _=>0)) x≤1099511627)(hN:Big N):w_toIntS N x=some x:=by
 unfold w_toIntS
 rw[mk_some (by simp only[totL]at h;omega)]
 exact toL hN h (w_toIntS_l1 N x) (fun m k hk hb ht acc ha=>by rw[w_toIntS_l1,IP (by simpa using hk),at_lt hk,Option.bind_some,at_lt ha,Option.bind_some,WS hb];rfl) (fun m acc=>by rw[w_toIntS_l1,IQ (by simp)]) _ (by simp)
theorem to_Entry (N:Nat)(x:Entry)(h:totEntry x≤1099511627)(hN:Big N):w_toEntry N x=some x:=by
 unfold w_toEntry
 simp only[totEntry]at h
 try rfl
theorem to_EntryS (N:Nat)(x:(List Entry))(h:(totL totEntry) x≤1099511627)(hN:Big N):w_toEntryS N x=some x:=by
 unfold w_toEntryS
 rw[mk_some (by simp only[totL]at h;omega)]
 exact toL hN h (w_toEntryS_l1 N x) (fun m k hk hb ht acc ha=>by rw[w_toEntryS_l1,IP (by simpa using hk),at_lt hk,Option.bind_some,to_Entry N _ ht hN,Option.bind_some,at_lt ha,Option.bind_some,WS hb];rfl) (fun m acc=>by rw[w_toEntryS_l1,IQ (by simp)]) _ (by simp)
theorem to_Log (N:Nat)(x:Log)(h:totLog x≤1099511627)(hN:Big N):w_toLog N x=some x:=by
 unfold w_toLog
 simp only[totLog]at h
 rw[to_EntryS N x.Entries (by omega) hN]
 simp only[Option.bind_some]
 try rfl
theorem to_Peer (N:Nat)(x:Peer)(h:totPeer x≤1099511627)(hN:Big N):w_toPeer N x=some x:=by
 unfold w_toPeer
 try rfl
theorem to_PeerS (N:Nat)(x:(List Peer))(h:(totL totPeer) x≤1099511627)(hN:Big N):w_toPeerS N x=some x:=by
 unfold w_toPeerS
 rw[mk_some (by simp only[totL]at h;omega)]
 exact toL hN h (w_toPeerS_l1 N x) (fun m k hk hb ht acc ha=>by rw[w_toPeerS_l1,IP (by simpa using hk),at_lt hk,Option.bind_some,to_Peer N _ ht hN,Option.bind_some,at_lt ha,Option.bind_some,WS hb];rfl) (fun m acc=>by rw[w_toPeerS_l1,IQ (by simp)]) _ (by simp)
theorem to_Node (N:Nat)(x:Node)(h:totNode x≤1099511627)(hN:Big N):w_toNode N x=some x:=by
 unfold w_toNode
 simp only[totNode]at h
 rw[to_IntS N x.Conf (by omega) hN]
 simp only[Option.bind_some]
 rw[to_Log N x.Log (by omega) hN]
 simp only[Option.bind_some]
 rw[to_IntS N x.Votes (by omega) hN]
 simp only[Option.bind_some]
 rw[to_PeerS N x.Peers (by omega) hN]
 simp only[Option.bind_some]
 try rfl
theorem to_File (N:Nat)(x:File)(h:totFile x≤1099511627)(hN:Big N):w_toFile N x=some x:=by
 unfold w_toFile
 simp only[totFile]at h
 try rfl
theorem to_FileS (N:Nat)(x:(List File))(h:(totL totFile) x≤1099511627)(hN:Big N):w_toFileS N x=some x:=by
 unfold w_toFileS
 rw[mk_some (by simp only[totL]at h;omega)]
 exact toL hN h (w_toFileS_l1 N x) (fun m k hk hb ht acc ha=>by rw[w_toFileS_l1,IP (by simpa using hk),at_lt hk,Option.bind_some,to_File N _ ht hN,Option.bind_some,at_lt ha,Option.bind_some,WS hb];rfl) (fun m acc=>by rw[w_toFileS_l1,IQ (by simp)]) _ (by simp)
theorem to_Disk (N:Nat)(x:Disk)(h:totDisk x≤1099511627)(hN:Big N):w_toDisk N x=some x:=by
 unfold w_toDisk
 simp only[totDisk]at h
 rw[to_FileS N x.Files (by omega) hN]
 simp only[Option.bind_some]
 try rfl
theorem to_Manifest (N:Nat)(x:Manifest)(h:totManifest x≤1099511627)(hN:Big N):w_toManifest N x=some x:=by
 unfold w_toManifest
 simp only[totManifest]at h
 rw[to_IntS N x.Segs (by omega) hN]
 simp only[Option.bind_some]
 rw[to_IntS N x.Conf (by omega) hN]
 simp only[Option.bind_some]
 try rfl
theorem to_Spot (N:Nat)(x:Spot)(h:totSpot x≤1099511627)(hN:Big N):w_toSpot N x=some x:=by
 unfold w_toSpot
 simp only[totSpot]at h
 try rfl
theorem to_SpotS (N:Nat)(x:(List Spot))(h:(totL totSpot) x≤1099511627)(hN:Big N):w_toSpotS N x=some x:=by
 unfold w_toSpotS
 rw[mk_some (by simp only[totL]at h;omega)]
 exact toL hN h (w_toSpotS_l1 N x) (fun m k hk hb ht acc ha=>by rw[w_toSpotS_l1,IP (by simpa using hk),at_lt hk,Option.bind_some,to_Spot N _ ht hN,Option.bind_some,at_lt ha,Option.bind_some,WS hb];rfl) (fun m acc=>by rw[w_toSpotS_l1,IQ (by simp)]) _ (by simp)
theorem to_Shelf (N:Nat)(x:Shelf)(h:totShelf x≤1099511627)(hN:Big N):w_toShelf N x=some x:=by
 unfold w_toShelf
 simp only[totShelf]at h
 rw[to_Manifest N x.Man (by omega) hN]
 simp only[Option.bind_some]
 rw[to_SpotS N x.Dir (by omega) hN]
 simp only[Option.bind_some]
 try rfl
theorem to_Server (N:Nat)(x:Server)(h:totServer x≤1099511627)(hN:Big N):w_toServer N x=some x:=by
 unfold w_toServer
 simp only[totServer]at h
 rw[to_Node N x.Node (by omega) hN]
 simp only[Option.bind_some]
 rw[to_Disk N x.Disk (by omega) hN]
 simp only[Option.bind_some]
 rw[to_Shelf N x.Shelf (by omega) hN]
 simp only[Option.bind_some]
 try rfl
theorem to_ServerS (N:Nat)(x:(List Server))(h:(totL totServer) x≤1099511627)(hN:Big N):w_toServerS N x=some x:=by
 unfold w_toServerS
 rw[mk_some (by simp only[totL]at h;omega)]
 exact toL hN h (w_toServerS_l1 N x) (fun m k hk hb ht acc ha=>by rw[w_toServerS_l1,IP (by simpa using hk),at_lt hk,Option.bind_some,to_Server N _ ht hN,Option.bind_some,at_lt ha,Option.bind_some,WS hb];rfl) (fun m acc=>by rw[w_toServerS_l1,IQ (by simp)]) _ (by simp)
theorem to_Message (N:Nat)(x:Message)(h:totMessage x≤1099511627)(hN:Big N):w_toMessage N x=some x:=by
 unfold w_toMessage
 simp only[totMessage]at h
 rw[to_EntryS N x.Entries (by omega) hN]
 simp only[Option.bind_some]
 rw[to_IntS N x.Conf (by omega) hN]
 simp only[Option.bind_some]
 try rfl
theorem to_MessageS (N:Nat)(x:(List Message))(h:(totL totMessage) x≤1099511627)(hN:Big N):w_toMessageS N x=some x:=by
 unfold w_toMessageS
 rw[mk_some (by simp only[totL]at h;omega)]
 exact toL hN h (w_toMessageS_l1 N x) (fun m k hk hb ht acc ha=>by rw[w_toMessageS_l1,IP (by simpa using hk),at_lt hk,Option.bind_some,to_Message N _ ht hN,Option.bind_some,at_lt ha,Option.bind_some,WS hb];rfl) (fun m acc=>by rw[w_toMessageS_l1,IQ (by simp)]) _ (by simp)
theorem to_Wait (N:Nat)(x:Wait)(h:totWait x≤1099511627)(hN:Big N):w_toWait N x=some x:=by
 unfold w_toWait
 try rfl
theorem to_WaitS (N:Nat)(x:(List Wait))(h:(totL totWait) x≤1099511627)(hN:Big N):w_toWaitS N x=some x:=by
 unfold w_toWaitS
 rw[mk_some (by simp only[totL]at h;omega)]
 exact toL hN h (w_toWaitS_l1 N x) (fun m k hk hb ht acc ha=>by rw[w_toWaitS_l1,IP (by simpa using hk),at_lt hk,Option.bind_some,to_Wait N _ ht hN,Option.bind_some,at_lt ha,Option.bind_some,WS hb];rfl) (fun m acc=>by rw[w_toWaitS_l1,IQ (by simp)]) _ (by simp)
theorem to_Leader (N:Nat)(x:Leader)(h:totLeader x≤1099511627)(hN:Big N):w_toLeader N x=some x:=by
 unfold w_toLeader
 simp only[totLeader]at h
 rw[to_Log N x.Log (by omega) hN]
 simp only[Option.bind_some]
 try rfl
theorem to_LeaderS (N:Nat)(x:(List Leader))(h:(totL totLeader) x≤1099511627)(hN:Big N):w_toLeaderS N x=some x:=by
 unfold w_toLeaderS
 rw[mk_some (by simp only[totL]at h;omega)]
 exact toL hN h (w_toLeaderS_l1 N x) (fun m k hk hb ht acc ha=>by rw[w_toLeaderS_l1,IP (by simpa using hk),at_lt hk,Option.bind_some,to_Leader N _ ht hN,Option.bind_some,at_lt ha,Option.bind_some,WS hb];rfl) (fun m acc=>by rw[w_toLeaderS_l1,IQ (by simp)]) _ (by simp)
theorem to_Applied (N:Nat)(x:Applied)(h:totApplied x≤1099511627)(hN:Big N):w_toApplied N x=some x:=by
 unfold w_toApplied
 simp only[totApplied]at h
 rw[to_Entry N x.Entry (by omega) hN]
 simp only[Option.bind_some]
 try rfl
theorem to_AppliedS (N:Nat)(x:(List Applied))(h:(totL totApplied) x≤1099511627)(hN:Big N):w_toAppliedS N x=some x:=by
 unfold w_toAppliedS
 rw[mk_some (by simp only[totL]at h;omega)]
 exact toL hN h (w_toAppliedS_l1 N x) (fun m k hk hb ht acc ha=>by rw[w_toAppliedS_l1,IP (by simpa using hk),at_lt hk,Option.bind_some,to_Applied N _ ht hN,Option.bind_some,at_lt ha,Option.bind_some,WS hb];rfl) (fun m acc=>by rw[w_toAppliedS_l1,IQ (by simp)]) _ (by simp)
theorem to_Command (N:Nat)(x:Command)(h:totCommand x≤1099511627)(hN:Big N):w_toCommand N x=some x:=by
 unfold w_toCommand
 simp only[totCommand]at h
 try rfl
theorem to_Reply (N:Nat)(x:Reply)(h:totReply x≤1099511627)(hN:Big N):w_toReply N x=some x:=by
 unfold w_toReply
 simp only[totReply]at h
 rw[to_Command N x.Command (by omega) hN]
 simp only[Option.bind_some]
 try rfl
theorem to_ReplyS (N:Nat)(x:(List Reply))(h:(totL totReply) x≤1099511627)(hN:Big N):w_toReplyS N x=some x:=by
 unfold w_toReplyS
 rw[mk_some (by simp only[totL]at h;omega)]
 exact toL hN h (w_toReplyS_l1 N x) (fun m k hk hb ht acc ha=>by rw[w_toReplyS_l1,IP (by simpa using hk),at_lt hk,Option.bind_some,to_Reply N _ ht hN,Option.bind_some,at_lt ha,Option.bind_some,WS hb];rfl) (fun m acc=>by rw[w_toReplyS_l1,IQ (by simp)]) _ (by simp)
theorem to_World (N:Nat)(x:World)(h:totWorld x≤1099511627)(hN:Big N):w_toWorld N x=some x:=by
 unfold w_toWorld
 simp only[totWorld]at h
 rw[to_BoolS N x.Up (by omega) hN]
 simp only[Option.bind_some]
 rw[to_ServerS N x.Servers (by omega) hN]
 simp only[Option.bind_some]
 rw[to_MessageS N x.Net (by omega) hN]
 simp only[Option.bind_some]
 rw[to_WaitS N x.Waits (by omega) hN]
 simp only[Option.bind_some]
 rw[to_LeaderS N x.Leaders (by omega) hN]
 simp only[Option.bind_some]
 rw[to_AppliedS N x.Applied (by omega) hN]
 simp only[Option.bind_some]
 rw[to_ReplyS N x.Replies (by omega) hN]
 simp only[Option.bind_some]
 try rfl
theorem eq_BoolS (N:Nat)(x:(List Bool))(h:(totL (fun _=>0)) x≤1099511627)(hN:Big N):w_eqBoolS N x x=some true:=eqL hN h (w_eqBoolS_l1 N x x) (fun m k hk hb ht=>by rw[w_eqBoolS_l1,IP (by simpa using hk)];simp only[at_lt hk,WS hb,Option.bind_some];simp) fun m=>by rw[w_eqBoolS_l1,IQ (by simp)]
theorem eq_IntS (N:Nat)(x:(List Int))(h:(totL (fun _=>0)) x≤1099511627)(hN:Big N):w_eqIntS N x x=some true:=eqL hN h (w_eqIntS_l1 N x x) (fun m k hk hb ht=>by rw[w_eqIntS_l1,IP (by simpa using hk)];simp only[at_lt hk,WS hb,Option.bind_some];simp) fun m=>by rw[w_eqIntS_l1,IQ (by simp)]
theorem eq_Entry (N:Nat)(x:Entry)(h:totEntry x≤1099511627)(hN:Big N):w_eqEntry N x x=some true:=by
 unfold w_eqEntry
 simp only[totEntry]at h
 simp
theorem eq_EntryS (N:Nat)(x:(List Entry))(h:(totL totEntry) x≤1099511627)(hN:Big N):w_eqEntryS N x x=some true:=eqL hN h (w_eqEntryS_l1 N x x) (fun m k hk hb ht=>by rw[w_eqEntryS_l1,IP (by simpa using hk)];simp only[at_lt hk,WS hb,Option.bind_some];rw[eq_Entry N _ ht hN];rfl) fun m=>by rw[w_eqEntryS_l1,IQ (by simp)]
theorem eq_Log (N:Nat)(x:Log)(h:totLog x≤1099511627)(hN:Big N):w_eqLog N x x=some true:=by
 unfold w_eqLog
 simp only[totLog]at h
 simp[eq_EntryS N x.Entries (by omega) hN]
theorem eq_Peer (N:Nat)(x:Peer)(h:totPeer x≤1099511627)(hN:Big N):w_eqPeer N x x=some true:=by
 unfold w_eqPeer
 simp
theorem eq_PeerS (N:Nat)(x:(List Peer))(h:(totL totPeer) x≤1099511627)(hN:Big N):w_eqPeerS N x x=some true:=eqL hN h (w_eqPeerS_l1 N x x) (fun m k hk hb ht=>by rw[w_eqPeerS_l1,IP (by simpa using hk)];simp only[at_lt hk,WS hb,Option.bind_some];rw[eq_Peer N _ ht hN];rfl) fun m=>by rw[w_eqPeerS_l1,IQ (by simp)]
theorem eq_Node (N:Nat)(x:Node)(h:totNode x≤1099511627)(hN:Big N):w_eqNode N x x=some true:=by
 unfold w_eqNode
 simp only[totNode]at h
 simp[eq_IntS N x.Conf (by omega) hN,eq_Log N x.Log (by omega) hN,eq_IntS N x.Votes (by omega) hN,eq_PeerS N x.Peers (by omega) hN]
theorem eq_File (N:Nat)(x:File)(h:totFile x≤1099511627)(hN:Big N):w_eqFile N x x=some true:=by
 unfold w_eqFile
 simp only[totFile]at h
 simp
theorem eq_FileS (N:Nat)(x:(List File))(h:(totL totFile) x≤1099511627)(hN:Big N):w_eqFileS N x x=some true:=eqL hN h (w_eqFileS_l1 N x x) (fun m k hk hb ht=>by rw[w_eqFileS_l1,IP (by simpa using hk)];simp only[at_lt hk,WS hb,Option.bind_some];rw[eq_File N _ ht hN];rfl) fun m=>by rw[w_eqFileS_l1,IQ (by simp)]
theorem eq_Disk (N:Nat)(x:Disk)(h:totDisk x≤1099511627)(hN:Big N):w_eqDisk N x x=some true:=by
 unfold w_eqDisk
 simp only[totDisk]at h
 simp[eq_FileS N x.Files (by omega) hN]
theorem eq_Manifest (N:Nat)(x:Manifest)(h:totManifest x≤1099511627)(hN:Big N):w_eqManifest N x x=some true:=by
 unfold w_eqManifest
 simp only[totManifest]at h
 simp[eq_IntS N x.Segs (by omega) hN,eq_IntS N x.Conf (by omega) hN]
theorem eq_Spot (N:Nat)(x:Spot)(h:totSpot x≤1099511627)(hN:Big N):w_eqSpot N x x=some true:=by
 unfold w_eqSpot
 simp only[totSpot]at h
 simp
theorem eq_SpotS (N:Nat)(x:(List Spot))(h:(totL totSpot) x≤1099511627)(hN:Big N):w_eqSpotS N x x=some true:=eqL hN h (w_eqSpotS_l1 N x x) (fun m k hk hb ht=>by rw[w_eqSpotS_l1,IP (by simpa using hk)];simp only[at_lt hk,WS hb,Option.bind_some];rw[eq_Spot N _ ht hN];rfl) fun m=>by rw[w_eqSpotS_l1,IQ (by simp)]
theorem eq_Shelf (N:Nat)(x:Shelf)(h:totShelf x≤1099511627)(hN:Big N):w_eqShelf N x x=some true:=by
 unfold w_eqShelf
 simp only[totShelf]at h
 simp[eq_Manifest N x.Man (by omega) hN,eq_SpotS N x.Dir (by omega) hN]
theorem eq_Server (N:Nat)(x:Server)(h:totServer x≤1099511627)(hN:Big N):w_eqServer N x x=some true:=by
 unfold w_eqServer
 simp only[totServer]at h
 simp[eq_Node N x.Node (by omega) hN,eq_Disk N x.Disk (by omega) hN,eq_Shelf N x.Shelf (by omega) hN]
theorem eq_ServerS (N:Nat)(x:(List Server))(h:(totL totServer) x≤1099511627)(hN:Big N):w_eqServerS N x x=some true:=eqL hN h (w_eqServerS_l1 N x x) (fun m k hk hb ht=>by rw[w_eqServerS_l1,IP (by simpa using hk)];simp only[at_lt hk,WS hb,Option.bind_some];rw[eq_Server N _ ht hN];rfl) fun m=>by rw[w_eqServerS_l1,IQ (by simp)]
theorem eq_Message (N:Nat)(x:Message)(h:totMessage x≤1099511627)(hN:Big N):w_eqMessage N x x=some true:=by
 unfold w_eqMessage
 simp only[totMessage]at h
 simp[eq_EntryS N x.Entries (by omega) hN,eq_IntS N x.Conf (by omega) hN]
theorem eq_MessageS (N:Nat)(x:(List Message))(h:(totL totMessage) x≤1099511627)(hN:Big N):w_eqMessageS N x x=some true:=eqL hN h (w_eqMessageS_l1 N x x) (fun m k hk hb ht=>by rw[w_eqMessageS_l1,IP (by simpa using hk)];simp only[at_lt hk,WS hb,Option.bind_some];rw[eq_Message N _ ht hN];rfl) fun m=>by rw[w_eqMessageS_l1,IQ (by simp)]
theorem eq_Wait (N:Nat)(x:Wait)(h:totWait x≤1099511627)(hN:Big N):w_eqWait N x x=some true:=by
 unfold w_eqWait
 simp
theorem eq_WaitS (N:Nat)(x:(List Wait))(h:(totL totWait) x≤1099511627)(hN:Big N):w_eqWaitS N x x=some true:=eqL hN h (w_eqWaitS_l1 N x x) (fun m k hk hb ht=>by rw[w_eqWaitS_l1,IP (by simpa using hk)];simp only[at_lt hk,WS hb,Option.bind_some];rw[eq_Wait N _ ht hN];rfl) fun m=>by rw[w_eqWaitS_l1,IQ (by simp)]
theorem eq_Leader (N:Nat)(x:Leader)(h:totLeader x≤1099511627)(hN:Big N):w_eqLeader N x x=some true:=by
 unfold w_eqLeader
 simp only[totLeader]at h
 simp[eq_Log N x.Log (by omega) hN]
theorem eq_LeaderS (N:Nat)(x:(List Leader))(h:(totL totLeader) x≤1099511627)(hN:Big N):w_eqLeaderS N x x=some true:=eqL hN h (w_eqLeaderS_l1 N x x) (fun m k hk hb ht=>by rw[w_eqLeaderS_l1,IP (by simpa using hk)];simp only[at_lt hk,WS hb,Option.bind_some];rw[eq_Leader N _ ht hN];rfl) fun m=>by rw[w_eqLeaderS_l1,IQ (by simp)]
theorem eq_Applied (N:Nat)(x:Applied)(h:totApplied x≤1099511627)(hN:Big N):w_eqApplied N x x=some true:=by
 unfold w_eqApplied
 simp only[totApplied]at h
 simp[eq_Entry N x.Entry (by omega) hN]
theorem eq_AppliedS (N:Nat)(x:(List Applied))(h:(totL totApplied) x≤1099511627)(hN:Big N):w_eqAppliedS N x x=some true:=eqL hN h (w_eqAppliedS_l1 N x x) (fun m k hk hb ht=>by rw[w_eqAppliedS_l1,IP (by simpa using hk)];simp only[at_lt hk,WS hb,Option.bind_some];rw[eq_Applied N _ ht hN];rfl) fun m=>by rw[w_eqAppliedS_l1,IQ (by simp)]
theorem eq_Command (N:Nat)(x:Command)(h:totCommand x≤1099511627)(hN:Big N):w_eqCommand N x x=some true:=by
 unfold w_eqCommand
 simp only[totCommand]at h
 simp
theorem eq_Reply (N:Nat)(x:Reply)(h:totReply x≤1099511627)(hN:Big N):w_eqReply N x x=some true:=by
 unfold w_eqReply
 simp only[totReply]at h
 simp[eq_Command N x.Command (by omega) hN]
theorem eq_ReplyS (N:Nat)(x:(List Reply))(h:(totL totReply) x≤1099511627)(hN:Big N):w_eqReplyS N x x=some true:=eqL hN h (w_eqReplyS_l1 N x x) (fun m k hk hb ht=>by rw[w_eqReplyS_l1,IP (by simpa using hk)];simp only[at_lt hk,WS hb,Option.bind_some];rw[eq_Reply N _ ht hN];rfl) fun m=>by rw[w_eqReplyS_l1,IQ (by simp)]
theorem eq_World (N:Nat)(x:World)(h:totWorld x≤1099511627)(hN:Big N):w_eqWorld N x x=some true:=by
 unfold w_eqWorld
 simp only[totWorld]at h
 simp[eq_BoolS N x.Up (by omega) hN,eq_ServerS N x.Servers (by omega) hN,eq_MessageS N x.Net (by omega) hN,eq_WaitS N x.Waits (by omega) hN,eq_LeaderS N x.Leaders (by omega) hN,eq_AppliedS N x.Applied (by omega) hN,eq_ReplyS N x.Replies (by omega) hN]
end Go.Proofs.YthfjkhlgkjgkjaaGreatDoor.Pe.FnExactSound
