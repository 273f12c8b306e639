/- Functions,as pure functions; and that Go does just that. -/
import Derived.Test.YteoobblblpljfaaDoorPeFFnExactFormatDisk1
namespace Go.Proofs.YteoobblblpljfaaDoor.Pe.FnExactFormatDisk
open Go Go.RowKit
set_option linter.unusedVariables false
set_option linter.unusedSimpArgs false
set_option maxHeartbeats 40000000
set_option maxRecDepth 100000
def impl_Frame (N : Nat) (x1 : ByteArray) : Option (ByteArray × Bool) :=
 (impl_within N (x1.size : Int) 1 9000).bind fun y128 =>
 (if (!y128) = true then
 some ((⟨#[]⟩ : ByteArray),false)
 else
 (impl_VarText N (x1.size : Int)).bind fun y133 =>
 (impl_SumOf N x1).bind fun y137 =>
 (intSh .shr .u32 y137 24).bind fun x143 =>
 (intSh .shr .u32 y137 16).bind fun x144 =>
 (intSh .shr .u32 y137 8).bind fun x145 =>
 (scat? y133.1 (strOf ([IntKind.wrap .u8 (x143),IntKind.wrap .u8 (x144),IntKind.wrap .u8 (x145),IntKind.wrap .u8 (y137)] : List Int))).bind fun x146 =>
 (scat? x146 x1).bind fun x147 =>
 some (x147,true))
theorem sem_impl_Frame (N : Nat) (x1 : ByteArray) (r : ByteArray × Bool) (h : impl_Frame N x1 = some r) : Says Tryd.prog 52 [VS x1] 0 [] (.tup [VS r.1,VB r.2]) [] := by
 unfold impl_Frame at h
 refine Says.of_norm e Tryd.call52 e fun B hB => ?_
 have hm : B.m ≤ 1000 := by omega
 refine Run.so hm (.p2 e e (.nil (.seq (.so hm (.p2 e e ?_)))))
 obtain ⟨y128,hy128,h⟩ := bindO h
 refine Ops.z 5128 (Ev.call [] [] 0 (sem_impl_within _ _ _ _ _ hy128) e e (.d2 (.d1 .nil)) e (.inl e) e e) e e (.p e (.nil (.condO e h (fun g129 h => ?_) (fun g129 h => ?_))))
 ·refine Run.so hm (.p2 e e (.nil (.ret ?_)))
  obtain rfl := someO h
  exact Ends.mkG (.inl e) e (gh_pk [0,1] [] hB e e e e) e e
 ·refine Run.skip (.so hm (.p2 e e ?_))
  obtain ⟨y133,hy133,h⟩ := bindO h
  refine Ops.z 13320 (Ev.call [] [] 0 (sem_impl_VarText _ _ _ hy133) e e (.d1 .nil) e (.inl e) e e) e e (.p3 e e e (.p2 e e (.nil (.so hm (.p e ?_)))))
  obtain ⟨y137,hy137,h⟩ := bindO h
  refine Ops.z 17400 (Ev.call [] [] 0 (sem_impl_SumOf _ _ _ hy137) e e (.d1 .nil) e (.inl e) e e) e e (.p e (.nil (.so hm (.p2 e e ?_))))
  obtain ⟨x143,hx143,h⟩ := bindO h
  refine Ops.z 21512 (.sh e e hx143) e e (.p2 e e ?_)
  obtain ⟨x144,hx144,h⟩ := bindO h
  refine Ops.z 21560 (.sh e e hx144) e e (.p2 e e ?_)
  obtain ⟨x145,hx145,h⟩ := bindO h
  refine Ops.z 21608 (.sh e e hx145) e e (.p3 e e e (.z 21672 (Ev.bsW (ys := ([IntKind.wrap .u8 (x143),IntKind.wrap .u8 (x144),IntKind.wrap .u8 (x145),IntKind.wrap .u8 (y137)] : List Int)) (f := encU) e (.d4 .nil) e e e e e) e e (.z 21688 (.sbC (addsW (f := encU) e e e (fun _ => e))) e e ?_)))
  obtain ⟨x146,hx146,h⟩ := bindO h
  refine Ops.z 21704 (Ev.addS e e hx146) e e (.p e ?_)
  obtain ⟨x147,hx147,h⟩ := bindO h
  refine Ops.z 21736 (Ev.addS e e hx147) e e (.p2 e e (.nil (.ret ?_)))
  obtain rfl := someO h
  exact Ends.mkG (.inl e) e (gh_pk [0,1] [] hB e e e e) e e
def impl_framed (N : Nat) (x1 : ByteArray) : Option (ByteArray) :=
 (impl_Frame N x1).bind fun y107 =>
 some y107.1
theorem sem_impl_framed (N : Nat) (x1 : ByteArray) (r : ByteArray) (h : impl_framed N x1 = some r) : Says Tryd.prog 30 [VS x1] 0 [] (VS r) [] := by
 unfold impl_framed at h
 refine Says.of_norm e Tryd.call30 e fun B hB => ?_
 have hm : B.m ≤ 1000 := by omega
 refine Run.so hm (.p e (.nil (.so hm (.p e ?_))))
 obtain ⟨y107,hy107,h⟩ := bindO h
 refine Ops.z 5112 (Ev.call [] [] 0 (sem_impl_Frame _ _ _ hy107) e e (.d1 .nil) e (.inl e) e e) e e (.p3 e e e (.p2 e e (.nil (.so hm (.p2 e e (.nil (.ret ?_)))))))
 obtain rfl := someO h
 exact Ends.mkG (.inl e) e (gh_pk [0] [] hB e e e e) e e
def impl_EntryText (N : Nat) (x1 : Int) (x2 : Entry) : Option (ByteArray × Bool) :=
 (impl_EntryOk N x2).bind fun y134 =>
 (if (!y134) = true then
 some ((⟨#[]⟩ : ByteArray),false)
 else
 (impl_within N x1 1 100000).bind fun y136 =>
 (if (!y136) = true then
 some ((⟨#[]⟩ : ByteArray),false)
 else
 (impl_vars N ([x1,x2.Term] : List Int)).bind fun y141 =>
 (scat? (⟨#[69]⟩ : ByteArray) y141.1).bind fun x145 =>
 (scat? x145 (strOf ([IntKind.wrap .u8 (x2.Kind)] : List Int))).bind fun x146 =>
 (scat? x146 x2.Data).bind fun x147 =>
 some (x147,true)))
theorem sem_impl_EntryText (N : Nat) (x1 : Int) (x2 : Entry) (r : ByteArray × Bool) (h : impl_EntryText N x1 x2 = some r) : Says Tryd.prog 53 [VI x1,.agg [VI x2.Term,VI x2.Kind,VS x2.Data]] 0 [] (.tup [VS r.1,VB r.2]) [] := by
 unfold impl_EntryText at h
 refine Says.of_norm e Tryd.call53 e fun B hB => ?_
 have hm : B.m ≤ 1000 := by omega
 refine Run.so hm (.z 1000 (.bx e e) e e (.p2 e e (.nil (.seq (.so hm (.p e ?_))))))
 obtain ⟨y134,hy134,h⟩ := bindO h
 refine Ops.z 5112 (Ev.call [] [] 0 (sem_impl_EntryOk _ _ _ hy134) e e (.cons (.agg (.d2 (.d1 .nil))) .nil) e (.inl e) e e) e e (.p2 e e (.askO (x := .t 11) e h (fun g135 h => ?_) (fun g135 h => ?_)))
 ·refine Ops.gn e g135 (.gn e g135 (.gn e g135 (.z 5208 (.pkT e g135 e) e e (.nil (.condT e e (.so hm (.p2 e e (.nil (.ret ?_)))))))))
  obtain rfl := someO h
  exact Ends.mkG (.inl e) e (gh_pk [0,1] [] hB e e e e) e e
 ·refine Ops.gp e g135 e ?_
  obtain ⟨y136,hy136,h⟩ := bindO h
  refine Ops.gs (s := 5176) e g135 (Ev.call [] [] 0 (sem_impl_within _ _ _ _ _ hy136) e e (.d2 (.d1 .nil)) e (.inl e) e e) e e (.gp e g135 e (.z 5208 (.pkF e g135 e) e e (.nil (.condO e h (fun g137 h => ?_) (fun g137 h => ?_)))))
  ·refine Run.so hm (.p2 e e (.nil (.ret ?_)))
   obtain rfl := someO h
   exact Ends.mkG (.inl e) e (gh_pk [0,1] [] hB e e e e) e e
  ·refine Run.skip (.so hm (.p3 e e e (.z 13336 (Ev.bsW (ys := ([x1,x2.Term] : List Int)) (f := encI) e (.d2 .nil) e e e e e) e e ?_)))
   obtain ⟨y141,hy141,h⟩ := bindO h
   refine Ops.z 13352 (Ev.call [] [13336] 0 (sem_impl_vars _ _ _ hy141) e e (.cons (.borrow e (by decide) (lendW (fun _ => e) _ e)) .nil) e (.inr ⟨e,ownL_root trivial⟩) e e) e e ?_
   refine Ops.p e (.p3 e e e (.p e (.nil (.so hm (.p e ?_)))))
   obtain ⟨x145,hx145,h⟩ := bindO h
   refine Ops.z 17400 (Ev.addS e e hx145) e e (.p3 e e e (.z 17464 (Ev.bsW (ys := ([IntKind.wrap .u8 (x2.Kind)] : List Int)) (f := encU) e (.d1 .nil) e e e e e) e e (.z 17480 (.sbC (addsW (f := encU) e e e (fun _ => e))) e e ?_)))
   obtain ⟨x146,hx146,h⟩ := bindO h
   refine Ops.z 17496 (Ev.addS e e hx146) e e (.p2 e e ?_)
   obtain ⟨x147,hx147,h⟩ := bindO h
   refine Ops.z 17544 (Ev.addS e e hx147) e e (.p2 e e (.nil (.ret ?_)))
   obtain rfl := someO h
   exact Ends.mkG (.inl e) e (gh_pk [0,1] [] hB e e e e) e e
def impl_entryFrames_l1 (N : Nat) (x1 : Log) : Nat → Int → (List Int) → Option ((List Int))
 | 0,_,_ => none
 | m + 1,x279,x283 =>
 (if (decide (x279 < (x1.Entries.length : Int))) = true then
 (at? x1.Entries x279).bind fun x332 =>
 (impl_EntryText N (w64 ((w64 (x1.Start + 1)) + x279)) x332).bind fun y333 =>
 (impl_framed N y333.1).bind fun y336 =>
 (cat? x283 (intsOf y336)).bind fun x337 =>
 impl_entryFrames_l1 N x1 m (w64 (x279 + 1)) x337
 else
 some x283)
def impl_entryFrames_l1_r (N : Nat) (x1 : Log) : (List Entry) → Int → (List Int) → Option ((List Int))
 | [],x279,x283 =>
 some x283
 | hd :: tl,x279,x283 =>
 (some hd).bind fun x332 =>
 (impl_EntryText N (w64 ((w64 (x1.Start + 1)) + x279)) x332).bind fun y333 =>
 (impl_framed N y333.1).bind fun y336 =>
 (cat? x283 (intsOf y336)).bind fun x337 =>
 impl_entryFrames_l1_r N x1 tl (w64 (x279 + 1)) x337
theorem impl_entryFrames_l1_rng (N : Nat) (x1 : Log) (hx : x1.Entries.length ≤ 1099511627776) : ∀ (d k m : Nat) (x283 : (List Int)),x1.Entries.length = k + d → d < m → impl_entryFrames_l1 N x1 m (k : Int) x283 = impl_entryFrames_l1_r N x1 (x1.Entries.drop k) (k : Int) x283 := by
 intro d
 induction d with
 | zero =>
  intro k m x283 hd hm
  obtain ⟨m,rfl⟩ : ∃ q,m = q + 1 := ⟨m - 1,by omega⟩
  rw [impl_entryFrames_l1,if_neg (by simp; omega),List.drop_eq_nil_of_le (by omega),impl_entryFrames_l1_r]
 | succ d ih =>
  intro k m x283 hd hm
  obtain ⟨m,rfl⟩ : ∃ q,m = q + 1 := ⟨m - 1,by omega⟩
  have hk : k < x1.Entries.length := by omega
  rw [impl_entryFrames_l1,if_pos (by simp; omega),List.drop_eq_getElem_cons hk,impl_entryFrames_l1_r]
  have h1 := at_lt hk
  have h2 := w64_succ (k := k) (by omega)
  have h3 := ih (k + 1) m
  simp only [h1,h2,h3 _ (by omega) (by omega)]
theorem impl_entryFrames_l1_eq {N : Nat} (x1 : Log) (hx : x1.Entries.length ≤ 1099511627776) (hN : x1.Entries.length < N) (x283 : (List Int)) : impl_entryFrames_l1 N x1 N 0 x283 = impl_entryFrames_l1_r N x1 x1.Entries 0 x283 := impl_entryFrames_l1_rng N x1 hx x1.Entries.length 0 N x283 (by omega) hN
def impl_entryFrames (N : Nat) (x1 : Log) (x2 : Int) : Option (ByteArray) :=
 joinP (fun (v278 : (List Int)) =>
 some (strOf v278)) fun j278 =>
 (impl_entryFrames_l1 N x1 N x2 ([] : (List Int))).bind (fun v310 => j278 v310)
theorem sem_impl_entryFrames (N : Nat) (x1 : Log) (x2 : Int) (r : ByteArray) (h : impl_entryFrames N x1 x2 = some r) : Says Tryd.prog 31 [.agg [VI x1.Start,VI x1.StartTerm,RO 64 (x1.Entries.map encEntry)],VI x2] 0 [] (VS r) [] := by
 unfold impl_entryFrames at h
 refine Says.of_norm e Tryd.call31 e fun B hB => ?_
 have hm : B.m ≤ 1000 := by omega
 refine Run.so hm (.z 1000 (.bx e e) e e (.p e (.nil (.so hm (.p e (.nil (.seqO h (fun v278 => [(5,.sl 0 5 0 v278.length)]) (fun (v278 : (List Int)) => [(0,.vec 5 (v278.map encU))]) (fun h => ?_) (fun v278 h => ?_))))))))
 ·refine Run.so hm (.p2 e e (.nil (.block ?_)))
  obtain ⟨res310,h,hk310⟩ := bindO h
  refine Run.loop (n := N) (fun m310 fr σ => ∃ (x279 : Int),∃ (x283 : (List Int)),impl_entryFrames_l1 N x1 m310 x279 x283 = some res310 ∧ fr = [(2,.ptr 0 0),(5,.sl 1 5 0 x283.length),(6,VI x279)] ∧ σ = [(0,.box [VI x1.Start,VI x1.StartTerm,RO 64 (x1.Entries.map encEntry)]),(1,.vec 5 (x283.map encU))]) (Gh.trans (Gh.trans (gh_prn [2,5,6] [1000] hB e) (gh_nil [5] [] hB e e e)) (gh_pk [2,5,6] [1000,10000000] hB e e e e)) ⟨_,_,h,e,e⟩ ?_
  rintro m310 fr σ ⟨x279,x283,h,rfl,rfl⟩
  obtain _ | m310 := m310
  ·rw [impl_entryFrames_l1] at h; cases h
  rw [impl_entryFrames_l1] at h
  refine Run.seq (.so hm (.p3 e e e (.z 13336 (Ev.lnF e) e e (.p e (.nil (.condO e h (fun g313 h => ?_) (fun g313 h => ?_)))))))
  ·refine Run.skip (.seq (.block (.seq (.draw hm hmix (.p e (.p e (.p e (.p e (.p e (.p e (.p e (.p e ?_))))))))))))
   obtain ⟨x332,hx332,h⟩ := bindO h
   refine OpsD.z 21608 (Ev.iaF e e hx332) e e (.p e ?_)
   obtain ⟨y333,hy333,h⟩ := bindO h
   refine OpsD.z 21640 (Ev.call [] [] 0 (sem_impl_EntryText _ _ _ _ hy333) e e (.d1 (.cons (.agg (.d2 (.d1 .nil))) .nil)) e (.inl e) e e) e e (.p e (.p e (.p e (.p e (.p e (.nil ⟨by kernel_rfl,?_⟩))))))
   refine Run.ops hm (.p2 e e ?_)
   obtain ⟨y336,hy336,h⟩ := bindO h
   refine Ops.z 25608 (Ev.call [] [] 0 (sem_impl_framed _ _ _ hy336) e e (.d1 .nil) e (.inl e) e e) e e ?_
   obtain ⟨x337,hx337,h⟩ := bindO h
   exact Ops.z 25624 (Ev.apS (ontoW e e e) e e e hx337) e e (.p e (.nil (.ops hm (.p3 e e e (.nil (⟨m310,Nat.lt_succ_self m310,_,_,(gh_pk [2,5,6] [0,25624] hB e e e e),_,_,h,e,e⟩))))))
  ·refine Run.exit ?_
   obtain rfl := someO h
   have h := hk310
   exact ⟨_,_,(gh_pk [5] [1] hB e e e e),_,h,e,e⟩
 ·refine Run.so hm (.p e (.z 29688 (.sbC (addsW (f := encU) e e e (fun _ => e))) e e (.p e (.nil (.ret ?_)))))
  obtain rfl := someO h
  exact Ends.mkG (.inl e) e (gh_pk [0] [] hB e e e e) e e
def impl_LogFile (N : Nat) (x1 : Log) : Option (ByteArray × Bool) :=
 (impl_LogOk N x1).bind fun y132 =>
 (if (!y132) = true then
 some ((⟨#[]⟩ : ByteArray),false)
 else
 (impl_vars N ([x1.Start,x1.StartTerm] : List Int)).bind fun y137 =>
 (scat? (⟨#[83]⟩ : ByteArray) y137.1).bind fun x150 =>
 (impl_framed N x150).bind fun y151 =>
 (impl_entryFrames N x1 0).bind fun y152 =>
 (scat? y151 y152).bind fun x153 =>
 (if (decide ((x153.size : Int) > 20000)) = true then
 some ((⟨#[]⟩ : ByteArray),false)
 else
 some (x153,true)))
theorem sem_impl_LogFile (N : Nat) (x1 : Log) (r : ByteArray × Bool) (h : impl_LogFile N x1 = some r) : Says Tryd.prog 16 [.agg [VI x1.Start,VI x1.StartTerm,RO 64 (x1.Entries.map encEntry)]] 0 [] (.tup [VS r.1,VB r.2]) [] := by
 unfold impl_LogFile at h
 refine Says.of_norm e Tryd.call16 e fun B hB => ?_
 have hm : B.m ≤ 1000 := by omega
 refine Run.so hm (.z 1000 (.bx e e) e e (.p2 e e (.nil (.seq (.so hm (.p e ?_))))))
 obtain ⟨y132,hy132,h⟩ := bindO h
 refine Ops.z 5112 (Ev.call [] [] 0 (sem_impl_LogOk _ _ _ hy132) e e (.cons (.agg (.d2 (.d1 .nil))) .nil) e (.inl e) e e) e e (.p e (.nil (.condO e h (fun g133 h => ?_) (fun g133 h => ?_))))
 ·refine Run.so hm (.p2 e e (.nil (.ret ?_)))
  obtain rfl := someO h
  exact Ends.mkG (.inl e) e (gh_pk [0,1] [] hB e e e e) e e
 ·refine Run.skip (.so hm (.p3 e e e (.p e (.z 13352 (Ev.bsW (ys := ([x1.Start,x1.StartTerm] : List Int)) (f := encI) e (.d2 .nil) e e e e e) e e ?_))))
  obtain ⟨y137,hy137,h⟩ := bindO h
  refine Ops.z 13368 (Ev.call [] [13352] 0 (sem_impl_vars _ _ _ hy137) e e (.cons (.borrow e (by decide) (lendW (fun _ => e) _ e)) .nil) e (.inr ⟨e,ownL_root trivial⟩) e e) e e ?_
  refine Ops.p e (.p3 e e e (.p e (.nil (.seq (.draw hm hmix (.p e ?_))))))
  obtain ⟨x150,hx150,h⟩ := bindO h
  refine OpsD.z 17400 (Ev.addS e e hx150) e e ?_
  obtain ⟨y151,hy151,h⟩ := bindO h
  refine OpsD.z 17416 (Ev.call [] [] 0 (sem_impl_framed _ _ _ hy151) e e (.d1 .nil) e (.inl e) e e) e e (.p e ?_)
  obtain ⟨y152,hy152,h⟩ := bindO h
  refine OpsD.z 17448 (Ev.call [] [] 0 (sem_impl_entryFrames _ _ _ _ hy152) e e (.cons (.agg (.d2 (.d1 .nil))) (.d1 .nil)) e (.inl e) e e) e e ?_
  obtain ⟨x153,hx153,h⟩ := bindO h
  refine OpsD.z 17464 (Ev.addS e e hx153) e e (.p e (.nil ⟨by kernel_rfl,?_⟩))
  refine Run.seq (.so hm (.p3 e e e (.nil (.condO e h (fun g155 h => ?_) (fun g155 h => ?_)))))
  ·refine Run.so hm (.p2 e e (.nil (.ret ?_)))
   obtain rfl := someO h
   exact Ends.mkG (.inl e) e (gh_pk [0,1] [] hB e e e e) e e
  ·refine Run.skip (.so hm (.p3 e e e (.nil (.ret ?_))))
   obtain rfl := someO h
   exact Ends.mkG (.inl e) e (gh_pk [0,1] [] hB e e e e) e e
def impl_copyDisk (N : Nat) (x1 : Disk) : Option (Disk) :=
 (cat? ([] : List File) x1.Files).bind fun x103 =>
 some (Disk.mk x103)
theorem sem_impl_copyDisk (N : Nat) (x1 : Disk) (r : Disk) (h : impl_copyDisk N x1 = some r) : Says Tryd.prog 32 [.agg [RO 41 (x1.Files.map encFile)]] 0 [] (.agg [.sl 0 41 0 r.Files.length]) [(0,.vec 41 (r.Files.map encFile))] := by
 unfold impl_copyDisk at h
 refine Says.of_norm e Tryd.call32 e fun B hB => ?_
 have hm : B.m ≤ 1000 := by omega
 refine Run.so hm (.z 1000 (.bx e e) e e (.z 1016 (.al e e) e e (.nil (.so hm (.p2 e e ?_)))))
 obtain ⟨x103,hx103,h⟩ := bindO h
 refine Ops.z 5128 (Ev.apW (f := encFile) (ontoN (f := encFile) e) (addsF e) e bt41 e hx103) e e (.z 5144 (.bd e e) e e (.y 5160 (.sto e e e e e e) e e (.nil (.ret ?_))))
 obtain rfl := someO h
 exact Ends.mkG (.inl e) e (gh_pk [0] [5128] hB e e e e) e e
def strings_Compare (N : Nat) (x1 : ByteArray) (x2 : ByteArray) : Option (Int) := some (Lib.compareBytes x1.data.toList x2.data.toList)
theorem sem_strings_Compare (N : Nat) (x1 : ByteArray) (x2 : ByteArray) (r : Int) (h : strings_Compare N x1 x2 = some r) : Says Tryd.prog 56 [VS x1,VS x2] 0 [] (VI r) [] := says_compare Tryd.call56 Go.Proofs.Tryd.strings_Compare h
def impl_fileNo_1 (N : Nat) (x1 : File) (x2 : ByteArray) : Option (Int) :=
 (strings_Compare N x1.Name x2).bind fun y103 =>
 some y103
theorem sem_impl_fileNo_1 (N : Nat) (x1 : File) (x2 : ByteArray) (r : Int) (h : impl_fileNo_1 N x1 x2 = some r) : Says Tryd.prog 55 [.agg [VS x1.Name,VS x1.Text],VS x2] 0 [] (VI r) [] := by
 unfold impl_fileNo_1 at h
 refine Says.of_norm e Tryd.call55 e fun B hB => ?_
 have hm : B.m ≤ 1000 := by omega
 refine Run.so hm (.z 1000 (.bx e e) e e (.p e (.nil (.so hm (.p3 e e e ?_)))))
 obtain ⟨y103,hy103,h⟩ := bindO h
 refine Ops.z 5144 (Ev.call [] [] 0 (sem_strings_Compare _ _ _ _ hy103) e e (.d2 .nil) e (.inl e) e e) e e (.p e (.nil (.ret ?_)))
 obtain rfl := someO h
 exact Ends.mkG (.inl e) e (gh_pk [0] [] hB e e e e) e e
def slices_BinarySearchFunc_string_l1 (N : Nat) (x1 : (List File)) (x2 : ByteArray) : Nat → Int → Int → Option (Int)
 | 0,_,_ => none
 | m + 1,x198,x199 =>
 (if (decide (x198 < x199)) = true then
 (intSh .shr .u64 (IntKind.wrap .u64 (w64 (x198 + x199))) 1).bind fun x218 =>
 (at? x1 (w64 (x218))).bind fun x221 =>
 (impl_fileNo_1 N x221 x2).bind fun y222 =>
 (if (decide (y222 < 0)) = true then
 slices_BinarySearchFunc_string_l1 N x1 x2 m (w64 ((w64 (x218)) + 1)) x199
 else
 slices_BinarySearchFunc_string_l1 N x1 x2 m x198 (w64 (x218)))
 else
 some x198)
def slices_BinarySearchFunc_string (N : Nat) (x1 : (List File)) (x2 : ByteArray) : Option (Int × Bool) :=
 joinP (fun (v194 : Int) =>
 (if (decide (v194 < (x1.length : Int))) = true then
 (at? x1 v194).bind fun x228 =>
 (impl_fileNo_1 N x228 x2).bind fun y229 =>
 some (v194,(y229 == 0))
 else
 some (v194,false))) fun j194 =>
 (slices_BinarySearchFunc_string_l1 N x1 x2 N 0 (x1.length : Int)).bind (fun v211 => j194 v211)
theorem sem_slices_BinarySearchFunc_string (N : Nat) (x1 : (List File)) (x2 : ByteArray) (r : Int × Bool) (h : slices_BinarySearchFunc_string N x1 x2 = some r) : Says Tryd.prog 54 [RO 41 (x1.map encFile),VS x2,.fn 55 []] 0 [] (.tup [VI r.1,VB r.2]) [] := by
 unfold slices_BinarySearchFunc_string at h
 refine Says.of_norm e Tryd.call54 e fun B hB => ?_
 have hm : B.m ≤ 1000 := by omega
 refine Run.so hm (.p2 e e (.nil (.so hm (.p e (.z 5112 (Ev.lnF e) e e (.p e (.nil (.so hm (.p3 e e e (.nil (.seqO h (fun v194 => [(0,RO 41 (x1.map encFile)),(1,VS x2),(2,.fn 55 []),(8,VI (x1.length : Int)),(9,VI v194)]) (fun (v194 : Int) => []) (fun h => ?_) (fun v194 h => ?_))))))))))))
 ·refine Run.block ?_
  obtain ⟨res211,h,hk211⟩ := bindO h
  refine Run.loop (n := N) (fun m211 fr σ => ∃ (x198 : Int),∃ (x199 : Int),slices_BinarySearchFunc_string_l1 N x1 x2 m211 x198 x199 = some res211 ∧ fr = [(0,RO 41 (x1.map encFile)),(1,VS x2),(2,.fn 55 []),(8,VI (x1.length : Int)),(9,VI x198),(10,VI x199)] ∧ σ = []) (gh_pk [0,1,2,8,9,10] [] hB e e e e) ⟨_,_,h,e,e⟩ ?_
  rintro m211 fr σ ⟨x198,x199,h,rfl,rfl⟩
  obtain _ | m211 := m211
  ·rw [slices_BinarySearchFunc_string_l1] at h; cases h
  rw [slices_BinarySearchFunc_string_l1] at h
  refine Run.seq (.so hm (.p3 e e e (.nil (.condO e h (fun g214 h => ?_) (fun g214 h => ?_)))))
  ·refine Run.skip (.block (.so hm (.p3 e e e (.p e ?_))))
   obtain ⟨x218,hx218,h⟩ := bindO h
   refine Ops.z 17448 (.sh e e hx218) e e (.p2 e e (.nil (.so hm (.p3 e e e ?_))))
   obtain ⟨x221,hx221,h⟩ := bindO h
   refine Ops.z 21528 (Ev.iaF e e hx221) e e (.p2 e e ?_)
   obtain ⟨y222,hy222,h⟩ := bindO h
   refine Ops.z 21576 (Ev.callx [] [] 0 e (sem_impl_fileNo_1 _ _ _ _ hy222) e e (.cons (.agg (.d2 .nil)) (.d1 .nil)) e (.inl e) e e) e e (.p e (.nil (.condO e h (fun g223 h => ?_) (fun g223 h => ?_))))
   ·exact Run.ops hm (.p3 e e e (.nil (⟨m211,Nat.lt_succ_self m211,_,_,(gh_pk [0,1,2,8,9,10] [] hB e e e e),_,_,h,e,e⟩)))
   ·exact Run.ops hm (.p2 e e (.nil (⟨m211,Nat.lt_succ_self m211,_,_,(gh_pk [0,1,2,8,9,10] [] hB e e e e),_,_,h,e,e⟩)))
  ·refine Run.exit ?_
   obtain rfl := someO h
   have h := hk211
   exact ⟨_,_,(gh_pk [0,1,2,8,9] [] hB e e e e),_,h,e,e⟩
 ·refine Run.so hm (.p3 e e e (.p2 e e (.askO (x := .t 39) e h (fun g227 h => ?_) (fun g227 h => ?_))))
  ·refine Ops.gp e g227 e (.gp e g227 e (.gp e g227 e ?_))
   obtain ⟨x228,hx228,h⟩ := bindO h
   refine Ops.gs (s := 33896) e g227 (Ev.iaF e e hx228) e e (.gp e g227 e (.gp e g227 e ?_))
   obtain ⟨y229,hy229,h⟩ := bindO h
   refine Ops.gs (s := 33944) e g227 (Ev.callx [] [] 0 e (sem_impl_fileNo_1 _ _ _ _ hy229) e e (.cons (.agg (.d2 .nil)) (.d1 .nil)) e (.inl e) e e) e e (.gp e g227 e (.z 33976 (.pkT e g227 e) e e (.p2 e e (.nil (.ret ?_)))))
   obtain rfl := someO h
   exact Ends.mkG (.inl e) e (gh_pk [0,1] [] hB e e e e) e e
  ·refine Ops.gn e g227 (.gn e g227 (.gn e g227 (.gn e g227 (.gn e g227 (.gn e g227 (.gn e g227 (.gn e g227 (.z 33976 (.pkF e g227 e) e e (.p2 e e (.nil (.ret ?_)))))))))))
   obtain rfl := someO h
   exact Ends.mkG (.inl e) e (gh_pk [0,1] [] hB e e e e) e e
def impl_fileNo (N : Nat) (x1 : Disk) (x2 : ByteArray) : Option (Int × Bool) :=
 (slices_BinarySearchFunc_string N x1.Files x2).bind fun y103 =>
 some (y103.1,y103.2)
theorem sem_impl_fileNo (N : Nat) (x1 : Disk) (x2 : ByteArray) (r : Int × Bool) (h : impl_fileNo N x1 x2 = some r) : Says Tryd.prog 33 [.agg [RO 41 (x1.Files.map encFile)],VS x2] 0 [] (.tup [VI r.1,VB r.2]) [] := by
 unfold impl_fileNo at h
 refine Says.of_norm e Tryd.call33 e fun B hB => ?_
 have hm : B.m ≤ 1000 := by omega
 refine Run.so hm (.z 1000 (.bx e e) e e (.p2 e e (.nil (.so hm (.p3 e e e ?_)))))
 obtain ⟨y103,hy103,h⟩ := bindO h
 refine Ops.z 5144 (Ev.call [] [] 0 (sem_slices_BinarySearchFunc_string _ _ _ _ hy103) e e (.d2 (.cons (.fn .nil) .nil)) e (.inl e) e e) e e (.p3 e e e (.p e (.nil (.ret ?_))))
 obtain rfl := someO h
 exact Ends.mkG (.inl e) e (gh_pk [0,1] [] hB e e e e) e e
def slices_Insert_File (N : Nat) (x1 : (List File)) (x2 : Int) (x3 : (List File)) : Option ((List File)) := ins? x1 x2 x3
theorem sem_slices_Insert_File (N : Nat) (x1 : (List File)) (x2 : Int) (x3 : (List File)) (r : (List File)) (h : slices_Insert_File N x1 x2 x3 = some r) : Says Tryd.prog 34 [.sl 0 41 0 x1.length,VI x2,.sl 1 41 0 x3.length] 2 [(0,.vec 41 (x1.map encFile)),(1,.vec 41 (x3.map encFile))] (.sl 2 41 0 r.length) [(0,.gone),(1,.gone),(2,.vec 41 (r.map encFile))] := says_ins Tryd.call34 Pe.ins34 (fun _ => rfl) h
def impl_withFile (N : Nat) (x1 : Disk) (x2 : ByteArray) (x3 : ByteArray) : Option (Disk) :=
 (impl_copyDisk N x1).bind fun y122 =>
 (impl_fileNo N x1 x2).bind fun y126 =>
 joinP (fun (v132 : (List File)) =>
 some (Disk.mk v132)) fun j132 =>
 (if y126.2 = true then
 (at? y122.Files y126.1).bind fun x135 =>
 j132 (y122.Files.set y126.1.toNat (File.mk x135.Name x3))
 else
 (slices_Insert_File N y122.Files y126.1 ([(File.mk x2 x3)] : List File)).bind fun y137 =>
 j132 y137)
theorem sem_impl_withFile (N : Nat) (x1 : Disk) (x2 : ByteArray) (x3 : ByteArray) (r : Disk) (h : impl_withFile N x1 x2 x3 = some r) : Says Tryd.prog 17 [.agg [RO 41 (x1.Files.map encFile)],VS x2,VS x3] 0 [] (.agg [.sl 0 41 0 r.Files.length]) [(0,.vec 41 (r.Files.map encFile))] := by
 unfold impl_withFile at h
 refine Says.of_norm e Tryd.call17 e fun B hB => ?_
 have hm : B.m ≤ 1000 := by omega
 refine Run.so hm (.z 1000 (.bx e e) e e (.z 1016 (.al e e) e e (.nil (.so hm (.p e ?_)))))
 obtain ⟨y122,hy122,h⟩ := bindO h
 refine Ops.z 5112 (Ev.call [] [] 1 (sem_impl_copyDisk _ _ _ hy122) e e (.cons (.agg (.d1 .nil)) .nil) e (.inl e) e e) e e (.z 5128 (.al e e) e e (.y 5144 (.sto e e e e e e) e e (.nil (.so hm (.p2 e e ?_)))))
 obtain ⟨y126,hy126,h⟩ := bindO h
 refine Ops.z 9224 (Ev.call [] [] 0 (sem_impl_fileNo _ _ _ _ hy126) e e (.cons (.agg (.d1 .nil)) (.d1 .nil)) e (.inl e) e e) e e (.p3 e e e (.p2 e e (.nil (.seqO h (fun v132 => [(6,.ptr 0 0),(7,.ptr 1 0)]) (fun (v132 : (List File)) => [(0,.box [.sl 2 41 0 (([] : List File).length)]),(1,.box [.sl 3 41 0 v132.length]),(2,.vec 41 (([] : List File).map encFile)),(3,.vec 41 (v132.map encFile))]) (fun h => ?_) (fun v132 h => ?_)))))
 ·refine Run.so hm (.p e (.nil (.condO e h (fun g133 h => ?_) (fun g133 h => ?_))))
  ·refine Run.ops hm (.p3 e e e (.p e ?_))
   obtain ⟨x135,hx135,h⟩ := bindO h
   exact Ops.z 17448 (Ev.iaW e e e hx135) e e (.p e (.y 17480 (Ev.stE (f := encFile) (v' := (File.mk x135.Name x3)) e e (at_some hx135).2 e (.d1 .nil) e e e e e) e e (.nil (⟨_,_,(Gh.trans (Gh.trans (gh_prn [6,7] [1016,5128,5112] hB e) (gh_nil [] [1016] hB e e e)) (gh_pk [6,7] [1016,5128,20000000,5112] hB e e (by first | rfl | (simp only [List.length_set]; done) | (simp only [List.length_set]; rfl)) (by first | rfl | (simp only [List.length_set]; done) | (simp only [List.length_set]; rfl)))),_,h,e,e⟩))))
  ·refine Run.ops hm (.p3 e e e (.p2 e e (.z 21560 (.bd e e) e e (.z 21576 (Ev.bsW (ys := ([(File.mk x2 x3)] : List File)) (f := encFile) e (.d2 .nil) e e e e e) e e ?_))))
   obtain ⟨y137,hy137,h⟩ := bindO h
   exact Ops.z 21592 (Ev.call [5112,21576] [] 1 (sem_slices_Insert_File _ _ _ _ _ hy137) e e (.cons (.sl e) (.d1 (.cons (.sl e) .nil))) e (.inl e) e e) e e (.p e (.y 21624 (.sto e e e e e e) e e (.nil (⟨_,_,(Gh.trans (Gh.trans (gh_prn [6,7] [1016,5128,21592] hB e) (gh_nil [] [1016] hB e e e)) (gh_pk [6,7] [1016,5128,20000000,21592] hB e e e e)),_,h,e,e⟩))))
 ·refine Run.so hm (.p e (.y 25592 (.sto e e e e e e) e e (.nil (.ret ?_))))
  obtain rfl := someO h
  exact Ends.mkG (.inl e) e (gh_pk [0] [3] hB e e e e) e e
def impl_FormatDisk (N : Nat) (x1 : (List Int)) : Option (Disk × Bool) :=
 (impl_FormatShelf N x1).bind fun y115 =>
 (if (!y115.2) = true then
 some ((Disk.mk ([])),false)
 else
 (impl_LogFile N (Log.mk 0 0 ([]))).bind fun y121 =>
 (impl_withFile N y115.1 (⟨#[108,111,103]⟩ : ByteArray) y121.1).bind fun y123 =>
 some (y123,true))
theorem sem_impl_FormatDisk (N : Nat) (x1 : (List Int)) (r : Disk × Bool) (h : impl_FormatDisk N x1 = some r) : Says Tryd.prog 6 [RO 3 (x1.map encI)] 0 [] (.tup [.agg [.sl 0 41 0 r.1.Files.length],VB r.2]) [(0,.vec 41 (r.1.Files.map encFile))] := by
 unfold impl_FormatDisk at h
 refine Says.of_norm e Tryd.call6 e fun B hB => ?_
 have hm : B.m ≤ 1000 := by omega
 refine Run.so hm (.z 1000 (.al e e) e e (.p e (.nil (.so hm (.p e ?_)))))
 obtain ⟨y115,hy115,h⟩ := bindO h
 refine Ops.z 5112 (Ev.call [] [] 1 (sem_impl_FormatShelf _ _ _ hy115) e e (.d1 .nil) e (.inl e) e e) e e (.p3 e e e (.z 5176 (.al e e) e e (.y 5192 (.sto e e e e e e) e e (.p e (.nil (.seq (.so hm (.p2 e e (.nil (.condO e h (fun g117 h => ?_) (fun g117 h => ?_)))))))))))
 ·refine Run.so hm (.z 13288 (.bd e e) e e (.y 13304 (.sto e e e e e e) e e (.p e (.nil (.ret ?_)))))
  obtain rfl := someO h
  exact Ends.mkG (.inl e) e (Gh.trans (Gh.trans (gh_prn [0,1] [] hB e) (gh_nil [0] [] hB e e e)) (gh_pk [0,1] [10000000] hB e e e e)) e e
 ·refine Run.skip (.so hm (.z 17384 (.bd e e) e e ?_))
  obtain ⟨y121,hy121,h⟩ := bindO h
  refine Ops.z 17400 (Ev.call [] [] 0 (sem_impl_LogFile _ _ _ hy121) e e (.cons (.agg (.d2 (.cons (.nil _ _) .nil))) .nil) e (.inl e) e e) e e (.p3 e e e (.p2 e e (.nil (.so hm (.p2 e e ?_)))))
  obtain ⟨y123,hy123,h⟩ := bindO h
  refine Ops.z 21512 (Ev.call [] [5112] 1 (sem_impl_withFile _ _ _ _ _ hy123) e e (.cons (.agg (.cons (.borrow e (by decide) (lendW (fun _ => e) _ e)) .nil)) (.d2 .nil)) e (.inr ⟨e,ownL_root ⟨own_rows (fun _ => e) _,trivial⟩⟩) e e) e e ?_
  refine Ops.y 21528 (.sto e e e e e e) e e (.p e (.nil (.ret ?_)))
  obtain rfl := someO h
  exact Ends.mkG (.inl e) e (gh_pk [0,1] [21512] hB e e e e) e e
def laws_eqFile (N : Nat) (x1 : File) (x2 : File) : Option (Bool) :=
 (if (!decide (x1.Name = x2.Name)) = true then
 some false
 else
 (if (!decide (x1.Text = x2.Text)) = true then
 some false
 else
 some true))
theorem sem_laws_eqFile (N : Nat) (x1 : File) (x2 : File) (r : Bool) (h : laws_eqFile N x1 x2 = some r) : Says Tryd.prog 35 [.agg [VS x1.Name,VS x1.Text],.agg [VS x2.Name,VS x2.Text]] 0 [] (VB r) [] := by
 unfold laws_eqFile at h
 refine Says.of_norm e Tryd.call35 e fun B hB => ?_
 have hm : B.m ≤ 1000 := by omega
 refine Run.so hm (.z 1000 (.bx e e) e e (.z 1016 (.bx e e) e e (.p e (.nil (.seq (.so hm (.p3 e e e (.p2 e e (.nil (.condO e h (fun g104 h => ?_) (fun g104 h => ?_)))))))))))
 ·refine Run.so hm (.p e (.nil (.ret ?_)))
  obtain rfl := someO h
  exact Ends.mkG (.inl e) e (gh_pk [0] [] hB e e e e) e e
 ·refine Run.skip (.seq (.so hm (.p3 e e e (.p2 e e (.nil (.condO e h (fun g105 h => ?_) (fun g105 h => ?_)))))))
  ·refine Run.so hm (.p e (.nil (.ret ?_)))
   obtain rfl := someO h
   exact Ends.mkG (.inl e) e (gh_pk [0] [] hB e e e e) e e
  ·refine Run.skip (.so hm (.p e (.nil (.ret ?_))))
   obtain rfl := someO h
   exact Ends.mkG (.inl e) e (gh_pk [0] [] hB e e e e) e e
def laws_eqFileS_l1 (N : Nat) (x1 : (List File)) (x2 : (List File)) : Nat → Int → Option ((Bool) ⊕ (Unit))
 | 0,_ => none
 | m + 1,x222 =>
 (if (decide (x222 < (x1.length : Int))) = true then
 (at? x1 x222).bind fun x254 =>
 (at? x2 x222).bind fun x255 =>
 (laws_eqFile N x254 x255).bind fun y256 =>
 (if (!y256) = true then
 some (Sum.inl false)
 else
 laws_eqFileS_l1 N x1 x2 m (w64 (x222 + 1)))
 else
 some (Sum.inr ()))
def laws_eqFileS_l1_r (N : Nat) (x1 : (List File)) (x2 : (List File)) : (List File) → Int → Option ((Bool) ⊕ (Unit))
 | [],x222 =>
 some (Sum.inr ())
 | hd :: tl,x222 =>
 (some hd).bind fun x254 =>
 (at? x2 x222).bind fun x255 =>
 (laws_eqFile N x254 x255).bind fun y256 =>
 (if (!y256) = true then
 some (Sum.inl false)
 else
 laws_eqFileS_l1_r N x1 x2 tl (w64 (x222 + 1)))
theorem laws_eqFileS_l1_rng (N : Nat) (x1 : (List File)) (x2 : (List File)) (hx : x1.length ≤ 1099511627776) : ∀ (d k m : Nat),x1.length = k + d → d < m → laws_eqFileS_l1 N x1 x2 m (k : Int) = laws_eqFileS_l1_r N x1 x2 (x1.drop k) (k : Int) := by
 intro d
 induction d with
 | zero =>
  intro k m hd hm
  obtain ⟨m,rfl⟩ : ∃ q,m = q + 1 := ⟨m - 1,by omega⟩
  rw [laws_eqFileS_l1,if_neg (by simp; omega),List.drop_eq_nil_of_le (by omega),laws_eqFileS_l1_r]
 | succ d ih =>
  intro k m hd hm
  obtain ⟨m,rfl⟩ : ∃ q,m = q + 1 := ⟨m - 1,by omega⟩
  have hk : k < x1.length := by omega
  rw [laws_eqFileS_l1,if_pos (by simp; omega),List.drop_eq_getElem_cons hk,laws_eqFileS_l1_r]
  have h1 := at_lt hk
  have h2 := w64_succ (k := k) (by omega)
  have h3 := ih (k + 1) m
  simp only [h1,h2,h3 (by omega) (by omega)]
theorem laws_eqFileS_l1_eq {N : Nat} (x1 : (List File)) (x2 : (List File)) (hx : x1.length ≤ 1099511627776) (hN : x1.length < N) : laws_eqFileS_l1 N x1 x2 N 0 = laws_eqFileS_l1_r N x1 x2 x1 0 := laws_eqFileS_l1_rng N x1 x2 hx x1.length 0 N (by omega) hN
def laws_eqFileS (N : Nat) (x1 : (List File)) (x2 : (List File)) : Option (Bool) :=
 (if ((x1.length : Int) != (x2.length : Int)) = true then
 some false
 else
 joinP (fun (v219 : Unit) =>
 some true) fun j219 =>
 (laws_eqFileS_l1 N x1 x2 N 0).bind (Sum.elim (fun v239 => some v239) (fun (v240 : Unit) => j219 ())))
theorem sem_laws_eqFileS (N : Nat) (x1 : (List File)) (x2 : (List File)) (r : Bool) (h : laws_eqFileS N x1 x2 = some r) : Says Tryd.prog 18 [RO 41 (x1.map encFile),RO 41 (x2.map encFile)] 0 [] (VB r) [] := by
 unfold laws_eqFileS at h
 refine Says.of_norm e Tryd.call18 e fun B hB => ?_
 have hm : B.m ≤ 1000 := by omega
 refine Run.so hm (.p e (.nil (.seq (.so hm (.p e (.z 5112 (Ev.lnF e) e e (.p e (.z 5144 (Ev.lnF e) e e (.p e (.nil (.condO e h (fun g180 h => ?_) (fun g180 h => ?_))))))))))))
 ·refine Run.so hm (.p e (.nil (.ret ?_)))
  obtain rfl := someO h
  exact Ends.mkG (.inl e) e (gh_pk [0] [] hB e e e e) e e
 ·refine Run.skip (.seqO h (fun v219 => []) (fun (v219 : Unit) => []) (fun h => ?_) (fun v219 h => ?_))
  ·refine Run.so hm (.p e (.nil (.block ?_)))
   obtain ⟨res240,h,hk240⟩ := bindO h
   refine Run.loop (n := N) (fun m240 fr σ => ∃ (x222 : Int),laws_eqFileS_l1 N x1 x2 m240 x222 = some res240 ∧ fr = [(0,RO 41 (x1.map encFile)),(1,RO 41 (x2.map encFile)),(5,VI x222)] ∧ σ = []) (gh_pk [0,1,5] [] hB e e e e) ⟨_,h,e,e⟩ ?_
   rintro m240 fr σ ⟨x222,h,rfl,rfl⟩
   obtain _ | m240 := m240
   ·rw [laws_eqFileS_l1] at h; cases h
   rw [laws_eqFileS_l1] at h
   refine Run.seq (.so hm (.p2 e e (.z 17416 (Ev.lnF e) e e (.p e (.nil (.condO e h (fun g243 h => ?_) (fun g243 h => ?_)))))))
   ·refine Run.skip (.seq (.block (.seq (.draw hm hmix (.p e (.p e ?_))))))
    obtain ⟨x254,hx254,h⟩ := bindO h
    refine OpsD.z 25608 (Ev.iaF e e hx254) e e (.p e (.p e (.p e ?_)))
    obtain ⟨x255,hx255,h⟩ := bindO h
    refine OpsD.z 25672 (Ev.iaF e e hx255) e e (.p e ?_)
    obtain ⟨y256,hy256,h⟩ := bindO h
    refine OpsD.z 25704 (Ev.call [] [] 0 (sem_laws_eqFile _ _ _ _ hy256) e e (.cons (.agg (.d2 .nil)) (.cons (.agg (.d2 .nil)) .nil)) e (.inl e) e e) e e (.p e (.nil ⟨by kernel_rfl,?_⟩))
    refine Run.condO e h (fun g257 h => ?_) (fun g257 h => ?_)
    ·refine Run.so hm (.p e (.nil (.ret ?_)))
     obtain rfl := someO h
     have h := hk240
     replace h := inlO h
     obtain rfl := someO h
     exact Ends.mkG (.inl e) e (gh_pk [0] [] hB e e e e) e e
    ·exact Run.skip (.ops hm (.p3 e e e (.nil (⟨m240,Nat.lt_succ_self m240,_,_,(gh_pk [0,1,5] [] hB e e e e),_,h,e,e⟩))))
   ·refine Run.exit ?_
    obtain rfl := someO h
    have h := hk240
    replace h := inrO h
    exact ⟨_,_,(gh_pk [] [] hB e e e e),(),h,e,e⟩
  ·refine Run.so hm (.p e (.nil (.ret ?_)))
   obtain rfl := someO h
   exact Ends.mkG (.inl e) e (gh_pk [0] [] hB e e e e) e e
def laws_eqDisk (N : Nat) (x1 : Disk) (x2 : Disk) : Option (Bool) :=
 (laws_eqFileS N x1.Files x2.Files).bind fun y104 =>
 (if (!y104) = true then
 some false
 else
 some true)
theorem sem_laws_eqDisk (N : Nat) (x1 : Disk) (x2 : Disk) (r : Bool) (h : laws_eqDisk N x1 x2 = some r) : Says Tryd.prog 7 [.agg [RO 41 (x1.Files.map encFile)],.agg [RO 41 (x2.Files.map encFile)]] 0 [] (VB r) [] := by
 unfold laws_eqDisk at h
 refine Says.of_norm e Tryd.call7 e fun B hB => ?_
 have hm : B.m ≤ 1000 := by omega
 refine Run.so hm (.z 1000 (.bx e e) e e (.z 1016 (.bx e e) e e (.p e (.nil (.seq (.so hm (.p3 e e e (.p e ?_))))))))
 obtain ⟨y104,hy104,h⟩ := bindO h
 refine Ops.z 5160 (Ev.call [] [] 0 (sem_laws_eqFileS _ _ _ _ hy104) e e (.d2 .nil) e (.inl e) e e) e e (.p e (.nil (.condO e h (fun g105 h => ?_) (fun g105 h => ?_))))
 ·refine Run.so hm (.p e (.nil (.ret ?_)))
  obtain rfl := someO h
  exact Ends.mkG (.inl e) e (gh_pk [0] [] hB e e e e) e e
 ·refine Run.skip (.so hm (.p e (.nil (.ret ?_))))
  obtain rfl := someO h
  exact Ends.mkG (.inl e) e (gh_pk [0] [] hB e e e e) e e
def laws_eqIntS_l1 (N : Nat) (x1 : (List Int)) (x2 : (List Int)) : Nat → Int → Option ((Bool) ⊕ (Unit))
 | 0,_ => none
 | m + 1,x198 =>
 (if (decide (x198 < (x1.length : Int))) = true then
 (at? x1 x198).bind fun x223 =>
 (at? x2 x198).bind fun x224 =>
 (if (x223 != x224) = true then
 some (Sum.inl false)
 else
 laws_eqIntS_l1 N x1 x2 m (w64 (x198 + 1)))
 else
 some (Sum.inr ()))
def laws_eqIntS_l1_r (N : Nat) (x1 : (List Int)) (x2 : (List Int)) : (List Int) → Int → Option ((Bool) ⊕ (Unit))
 | [],x198 =>
 some (Sum.inr ())
 | hd :: tl,x198 =>
 (some hd).bind fun x223 =>
 (at? x2 x198).bind fun x224 =>
 (if (x223 != x224) = true then
 some (Sum.inl false)
 else
 laws_eqIntS_l1_r N x1 x2 tl (w64 (x198 + 1)))
theorem laws_eqIntS_l1_rng (N : Nat) (x1 : (List Int)) (x2 : (List Int)) (hx : x1.length ≤ 1099511627776) : ∀ (d k m : Nat),x1.length = k + d → d < m → laws_eqIntS_l1 N x1 x2 m (k : Int) = laws_eqIntS_l1_r N x1 x2 (x1.drop k) (k : Int) := by
 intro d
 induction d with
 | zero =>
  intro k m hd hm
  obtain ⟨m,rfl⟩ : ∃ q,m = q + 1 := ⟨m - 1,by omega⟩
  rw [laws_eqIntS_l1,if_neg (by simp; omega),List.drop_eq_nil_of_le (by omega),laws_eqIntS_l1_r]
 | succ d ih =>
  intro k m hd hm
  obtain ⟨m,rfl⟩ : ∃ q,m = q + 1 := ⟨m - 1,by omega⟩
  have hk : k < x1.length := by omega
  rw [laws_eqIntS_l1,if_pos (by simp; omega),List.drop_eq_getElem_cons hk,laws_eqIntS_l1_r]
  have h1 := at_lt hk
  have h2 := w64_succ (k := k) (by omega)
  have h3 := ih (k + 1) m
  simp only [h1,h2,h3 (by omega) (by omega)]
theorem laws_eqIntS_l1_eq {N : Nat} (x1 : (List Int)) (x2 : (List Int)) (hx : x1.length ≤ 1099511627776) (hN : x1.length < N) : laws_eqIntS_l1 N x1 x2 N 0 = laws_eqIntS_l1_r N x1 x2 x1 0 := laws_eqIntS_l1_rng N x1 x2 hx x1.length 0 N (by omega) hN
def laws_eqIntS (N : Nat) (x1 : (List Int)) (x2 : (List Int)) : Option (Bool) :=
 (if ((x1.length : Int) != (x2.length : Int)) = true then
 some false
 else
 joinP (fun (v195 : Unit) =>
 some true) fun j195 =>
 (laws_eqIntS_l1 N x1 x2 N 0).bind (Sum.elim (fun v211 => some v211) (fun (v212 : Unit) => j195 ())))
theorem sem_laws_eqIntS (N : Nat) (x1 : (List Int)) (x2 : (List Int)) (r : Bool) (h : laws_eqIntS N x1 x2 = some r) : Says Tryd.prog 8 [RO 3 (x1.map encI),RO 3 (x2.map encI)] 0 [] (VB r) [] := by
 unfold laws_eqIntS at h
 refine Says.of_norm e Tryd.call8 e fun B hB => ?_
 have hm : B.m ≤ 1000 := by omega
 refine Run.so hm (.p e (.nil (.seq (.so hm (.p e (.z 5112 (Ev.lnF e) e e (.p e (.z 5144 (Ev.lnF e) e e (.p e (.nil (.condO e h (fun g164 h => ?_) (fun g164 h => ?_))))))))))))
 ·refine Run.so hm (.p e (.nil (.ret ?_)))
  obtain rfl := someO h
  exact Ends.mkG (.inl e) e (gh_pk [0] [] hB e e e e) e e
 ·refine Run.skip (.seqO h (fun v195 => []) (fun (v195 : Unit) => []) (fun h => ?_) (fun v195 h => ?_))
  ·refine Run.so hm (.p e (.nil (.block ?_)))
   obtain ⟨res212,h,hk212⟩ := bindO h
   refine Run.loop (n := N) (fun m212 fr σ => ∃ (x198 : Int),laws_eqIntS_l1 N x1 x2 m212 x198 = some res212 ∧ fr = [(0,RO 3 (x1.map encI)),(1,RO 3 (x2.map encI)),(5,VI x198)] ∧ σ = []) (gh_pk [0,1,5] [] hB e e e e) ⟨_,h,e,e⟩ ?_
   rintro m212 fr σ ⟨x198,h,rfl,rfl⟩
   obtain _ | m212 := m212
   ·rw [laws_eqIntS_l1] at h; cases h
   rw [laws_eqIntS_l1] at h
   refine Run.seq (.so hm (.p2 e e (.z 17416 (Ev.lnF e) e e (.p e (.nil (.condO e h (fun g215 h => ?_) (fun g215 h => ?_)))))))
   ·refine Run.skip (.seq (.block (.seq (.draw hm hmix (.p e (.p e ?_))))))
    obtain ⟨x223,hx223,h⟩ := bindO h
    refine OpsD.z 25608 (Ev.iaF e e hx223) e e (.p e (.p e (.p e ?_)))
    obtain ⟨x224,hx224,h⟩ := bindO h
    refine OpsD.z 25672 (Ev.iaF e e hx224) e e (.p e (.p e (.nil ⟨by kernel_rfl,?_⟩)))
    refine Run.condO e h (fun g225 h => ?_) (fun g225 h => ?_)
    ·refine Run.so hm (.p e (.nil (.ret ?_)))
     obtain rfl := someO h
     have h := hk212
     replace h := inlO h
     obtain rfl := someO h
     exact Ends.mkG (.inl e) e (gh_pk [0] [] hB e e e e) e e
    ·exact Run.skip (.ops hm (.p3 e e e (.nil (⟨m212,Nat.lt_succ_self m212,_,_,(gh_pk [0,1,5] [] hB e e e e),_,h,e,e⟩))))
   ·refine Run.exit ?_
    obtain rfl := someO h
    have h := hk212
    replace h := inrO h
    exact ⟨_,_,(gh_pk [] [] hB e e e e),(),h,e,e⟩
  ·refine Run.so hm (.p e (.nil (.ret ?_)))
   obtain rfl := someO h
   exact Ends.mkG (.inl e) e (gh_pk [0] [] hB e e e e) e e
def laws_markIntS_l1 (N : Nat) : Nat → Int → Int → (List Int) → Option (Int × (List Int))
 | 0,_,_,_ => none
 | m + 1,x177,x178,x179 =>
 (if (decide (x178 < ((x179.length : Nat) : Int))) = true then
 (at? x179 x178).bind fun x201 =>
 laws_markIntS_l1 N m (w64 (x177 + 1)) (w64 (x178 + 1)) (x179.set x178.toNat x177)
 else
 some (x177,x179))
def laws_markIntS (N : Nat) (x1 : (List Int)) (x2 : Int) : Option (Int × (List Int)) :=
 joinP (fun (v176 : Int × (List Int)) =>
 some (v176.1,v176.2)) fun j176 =>
 (laws_markIntS_l1 N N x2 0 x1).bind (fun v190 => j176 (v190.1,v190.2))
theorem sem_laws_markIntS (N : Nat) (x1 : (List Int)) (x2 : Int) (r : Int × (List Int)) (h : laws_markIntS N x1 x2 = some r) : Says Tryd.prog 9 [.sl 0 3 0 x1.length,VI x2] 1 [(0,.vec 3 (x1.map encI))] (VI r.1) [(0,.vec 3 (r.2.map encI))] := by
 unfold laws_markIntS at h
 refine Says.of_norm e Tryd.call9 e fun B hB => ?_
 have hm : B.m ≤ 1000 := by omega
 refine Run.so hm (.p e (.nil (.seqO h (fun v176 => [(1,VI v176.1)]) (fun (v176 : Int × (List Int)) => [(0,.vec 3 (v176.2.map encI))]) (fun h => ?_) (fun v176 h => ?_))))
 ·refine Run.so hm (.p e (.nil (.block ?_)))
  obtain ⟨res190,h,hk190⟩ := bindO h
  refine Run.loop (n := N) (fun m190 fr σ => ∃ (x177 : Int),∃ (x178 : Int),∃ (x179 : (List Int)),laws_markIntS_l1 N m190 x177 x178 x179 = some res190 ∧ fr = [(0,.sl 0 3 0 x179.length),(1,VI x177),(5,VI x178)] ∧ σ = [(0,.vec 3 (x179.map encI))]) (gh_pk [0,1,5] [0] hB e e e e) ⟨_,_,_,h,e,e⟩ ?_
  rintro m190 fr σ ⟨x177,x178,x179,h,rfl,rfl⟩
  obtain _ | m190 := m190
  ·rw [laws_markIntS_l1] at h; cases h
  rw [laws_markIntS_l1] at h
  refine Run.seq (.so hm (.p3 e e e (.p e (.nil (.condO e h (fun g193 h => ?_) (fun g193 h => ?_))))))
  ·refine Run.skip (.seq (.block (.so hm (.p3 e e e ?_))))
   obtain ⟨x201,hx201,h⟩ := bindO h
   exact Ops.z 17432 (Ev.iaW e e e hx201) e e (.y 17448 (Ev.stE (f := encI) (v' := x177) e e (at_some hx201).2 e (.d1 .nil) e e e e e) e e (.nil (.ops hm (.p3 e e e (.nil (.ops hm (.p3 e e e (.nil (⟨m190,Nat.lt_succ_self m190,_,_,(gh_pk [0,1,5] [0] hB e e (by first | rfl | (simp only [List.length_set]; done) | (simp only [List.length_set]; rfl)) (by first | rfl | (simp only [List.length_set]; done) | (simp only [List.length_set]; rfl))),_,_,_,h,e,e⟩)))))))))
  ·refine Run.exit ?_
   obtain rfl := someO h
   have h := hk190
   exact ⟨_,_,(gh_pk [1] [0] hB e e e e),_,h,e,e⟩
 ·refine Run.so hm (.p2 e e (.nil (.ret ?_)))
  obtain rfl := someO h
  exact Ends.mkG (.inl e) e (gh_pk [0] [0] hB e e e e) e e
def laws_markText_l1 (N : Nat) : Nat → Int → ByteArray → Option (ByteArray)
 | 0,_,_ => none
 | m + 1,x192,x193 =>
 (if (decide (x192 > 0)) = true then
 (intD .rem .i64 x192 10).bind fun x216 =>
 (scat? (strOf ([IntKind.wrap .u8 (w64 (48 + x216))] : List Int)) x193).bind fun x217 =>
 (intD .quo .i64 x192 10).bind fun x219 =>
 laws_markText_l1 N m x219 x217
 else
 some x193)
def laws_markText (N : Nat) (x1 : Int) : Option (ByteArray) :=
 (if (decide (x1 ≤ 0)) = true then
 some (⟨#[109,48]⟩ : ByteArray)
 else
 joinP (fun (v191 : ByteArray) =>
 (scat? (⟨#[109]⟩ : ByteArray) v191).bind fun x221 =>
 some x221) fun j191 =>
 (laws_markText_l1 N N x1 (⟨#[]⟩ : ByteArray)).bind (fun v206 => j191 v206))
theorem sem_laws_markText (N : Nat) (x1 : Int) (r : ByteArray) (h : laws_markText N x1 = some r) : Says Tryd.prog 36 [VI x1] 0 [] (VS r) [] := by
 unfold laws_markText at h
 refine Says.of_norm e Tryd.call36 e fun B hB => ?_
 have hm : B.m ≤ 1000 := by omega
 refine Run.so hm (.p e (.nil (.seq (.so hm (.p2 e e (.nil (.condO e h (fun g162 h => ?_) (fun g162 h => ?_))))))))
 ·refine Run.so hm (.p e (.nil (.ret ?_)))
  obtain rfl := someO h
  exact Ends.mkG (.inl e) e (gh_pk [0] [] hB e e e e) e e
 ·refine Run.skip (.so hm (.p e (.nil (.seqO h (fun v191 => [(3,VS v191)]) (fun (v191 : ByteArray) => []) (fun h => ?_) (fun v191 h => ?_)))))
  ·refine Run.block ?_
   obtain ⟨res206,h,hk206⟩ := bindO h
   refine Run.loop (n := N) (fun m206 fr σ => ∃ (x192 : Int),∃ (x193 : ByteArray),laws_markText_l1 N m206 x192 x193 = some res206 ∧ fr = [(0,VI x192),(3,VS x193)] ∧ σ = []) (gh_pk [0,3] [] hB e e e e) ⟨_,_,h,e,e⟩ ?_
   rintro m206 fr σ ⟨x192,x193,h,rfl,rfl⟩
   obtain _ | m206 := m206
   ·rw [laws_markText_l1] at h; cases h
   rw [laws_markText_l1] at h
   refine Run.seq (.so hm (.p2 e e (.nil (.condO e h (fun g209 h => ?_) (fun g209 h => ?_)))))
   ·refine Run.skip (.block (.so hm (.p e ?_)))
    obtain ⟨x216,hx216,h⟩ := bindO h
    refine Ops.z 21496 (.bin e e hx216) e e (.p2 e e (.z 21544 (Ev.bsW (ys := ([IntKind.wrap .u8 (w64 (48 + x216))] : List Int)) (f := encU) e (.d1 .nil) e e e e e) e e (.z 21560 (.sbC (addsW (f := encU) e e e (fun _ => e))) e e (.p e ?_))))
    obtain ⟨x217,hx217,h⟩ := bindO h
    refine Ops.z 21592 (Ev.addS e e hx217) e e (.p e (.nil (.ops hm (.p e ?_))))
    obtain ⟨x219,hx219,h⟩ := bindO h
    exact Ops.z 25592 (.bin e e hx219) e e (.p e (.nil (⟨m206,Nat.lt_succ_self m206,_,_,(gh_pk [0,3] [] hB e e e e),_,_,h,e,e⟩)))
   ·refine Run.exit ?_
    obtain rfl := someO h
    have h := hk206
    exact ⟨_,_,(gh_pk [3] [] hB e e e e),_,h,e,e⟩
  ·refine Run.so hm (.p e ?_)
   obtain ⟨x221,hx221,h⟩ := bindO h
   refine Ops.z 29688 (Ev.addS e e hx221) e e (.p e (.nil (.ret ?_)))
   obtain rfl := someO h
   exact Ends.mkG (.inl e) e (gh_pk [0] [] hB e e e e) e e
def laws_markFileS_l1 (N : Nat) : Nat → Int → Int → (List File) → Option (Int × (List File))
 | 0,_,_,_ => none
 | m + 1,x321,x322,x323 =>
 (if (decide (x322 < ((x323.length : Nat) : Int))) = true then
 (laws_markText N x321).bind fun y384 =>
 (at? x323 x322).bind fun x385 =>
 (laws_markText N (w64 (x321 + 1))).bind fun y392 =>
 (at? (x323.set x322.toNat (File.mk y384 x385.Text)) x322).bind fun x393 =>
 laws_markFileS_l1 N m (w64 ((w64 (x321 + 1)) + 1)) (w64 (x322 + 1)) ((x323.set x322.toNat (File.mk y384 x385.Text)).set x322.toNat (File.mk x393.Name y392))
 else
 some (x321,x323))
def laws_markFileS (N : Nat) (x1 : (List File)) (x2 : Int) : Option (Int × (List File)) :=
 joinP (fun (v320 : Int × (List File)) =>
 some (v320.1,v320.2)) fun j320 =>
 (laws_markFileS_l1 N N x2 0 x1).bind (fun v358 => j320 (v358.1,v358.2))
theorem sem_laws_markFileS (N : Nat) (x1 : (List File)) (x2 : Int) (r : Int × (List File)) (h : laws_markFileS N x1 x2 = some r) : Says Tryd.prog 19 [.sl 0 41 0 x1.length,VI x2] 1 [(0,.vec 41 (x1.map encFile))] (VI r.1) [(0,.vec 41 (r.2.map encFile))] := by
 unfold laws_markFileS at h
 refine Says.of_norm e Tryd.call19 e fun B hB => ?_
 have hm : B.m ≤ 1000 := by omega
 refine Run.so hm (.p e (.nil (.seqO h (fun v320 => [(1,VI v320.1)]) (fun (v320 : Int × (List File)) => [(0,.vec 41 (v320.2.map encFile))]) (fun h => ?_) (fun v320 h => ?_))))
 ·refine Run.so hm (.p e (.nil (.block ?_)))
  obtain ⟨res358,h,hk358⟩ := bindO h
  refine Run.loop (n := N) (fun m358 fr σ => ∃ (x321 : Int),∃ (x322 : Int),∃ (x323 : (List File)),laws_markFileS_l1 N m358 x321 x322 x323 = some res358 ∧ fr = [(0,.sl 0 41 0 x323.length),(1,VI x321),(5,VI x322)] ∧ σ = [(0,.vec 41 (x323.map encFile))]) (gh_pk [0,1,5] [0] hB e e e e) ⟨_,_,_,h,e,e⟩ ?_
  rintro m358 fr σ ⟨x321,x322,x323,h,rfl,rfl⟩
  obtain _ | m358 := m358
  ·rw [laws_markFileS_l1] at h; cases h
  rw [laws_markFileS_l1] at h
  refine Run.seq (.so hm (.p3 e e e (.p e (.nil (.condO e h (fun g361 h => ?_) (fun g361 h => ?_))))))
  ·refine Run.skip (.seq (.block (.so hm (.p3 e e e ?_))))
   obtain ⟨y384,hy384,h⟩ := bindO h
   refine Ops.z 17432 (Ev.call [] [] 0 (sem_laws_markText _ _ _ hy384) e e (.d1 .nil) e (.inl e) e e) e e ?_
   obtain ⟨x385,hx385,h⟩ := bindO h
   refine Ops.z 17448 (Ev.iaW e e e hx385) e e (.p e (.y 17480 (Ev.stE (f := encFile) (v' := (File.mk y384 x385.Text)) e e (at_some hx385).2 e (.d1 .nil) e e e e e) e e (.nil (.so hm (.p3 e e e (.nil (.so hm (.p3 e e e ?_))))))))
   obtain ⟨y392,hy392,h⟩ := bindO h
   refine Ops.z 25624 (Ev.call [] [] 0 (sem_laws_markText _ _ _ hy392) e e (.d1 .nil) e (.inl e) e e) e e ?_
   obtain ⟨x393,hx393,h⟩ := bindO h
   refine Ops.z 25640 (Ev.iaW e (by simp) e hx393) e e ?_
   exact Ops.p e (.y 25672 (Ev.stE (f := encFile) (v' := (File.mk x393.Name y392)) e e (at_some hx393).2 e (.d1 .nil) e e e e e) e e (.nil (.ops hm (.p3 e e e (.nil (.ops hm (.p3 e e e (.nil (⟨m358,Nat.lt_succ_self m358,_,_,(gh_pk [0,1,5] [0] hB e e (by first | rfl | (simp only [List.length_set]; done) | (simp only [List.length_set]; rfl)) (by first | rfl | (simp only [List.length_set]; done) | (simp only [List.length_set]; rfl))),_,_,_,h,e,e⟩)))))))))
  ·refine Run.exit ?_
   obtain rfl := someO h
   have h := hk358
   exact ⟨_,_,(gh_pk [1] [0] hB e e e e),_,h,e,e⟩
 ·refine Run.so hm (.p2 e e (.nil (.ret ?_)))
  obtain rfl := someO h
  exact Ends.mkG (.inl e) e (gh_pk [0] [0] hB e e e e) e e
def laws_markDisk (N : Nat) (x1 : Disk) (x2 : Int) : Option (Int × (List File)) :=
 (laws_markFileS N x1.Files x2).bind fun y114 =>
 (len? x1.Files y114.2).bind fun y115 =>
 some (y114.1,y114.2)
theorem sem_laws_markDisk (N : Nat) (x1 : Disk) (x2 : Int) (r : Int × (List File)) (h : laws_markDisk N x1 x2 = some r) : Says Tryd.prog 10 [.agg [.sl 0 41 0 x1.Files.length],VI x2] 1 [(0,.vec 41 (x1.Files.map encFile))] (VI r.1) [(0,.vec 41 (r.2.map encFile))] := by
 unfold laws_markDisk at h
 refine Says.of_norm e Tryd.call10 e fun B hB => ?_
 have hm : B.m ≤ 1000 := by omega
 refine Run.so hm (.z 1000 (.bx e e) e e (.p e (.nil (.so hm (.p3 e e e ?_)))))
 obtain ⟨y114,hy114,h⟩ := bindO h
 obtain ⟨y115,hy115,h⟩ := bindO h
 refine Ops.z 5144 (Ev.call [0] [] 0 (sem_laws_markFileS _ _ _ _ hy114) e e (.cons (.sl e) (.d1 .nil)) e (.inl e) e e) e e (.p e (.nil (.so hm (.p2 e e (.nil (.ret ?_))))))
 obtain rfl := someO h
 exact Ends.mkG (.inl e) e (gh_pk [0] [0] hB e e e e) (by first | rfl | (simp only [List.length_set,(len_some hy115)]; done) | (simp only [List.length_set,(len_some hy115)]; rfl)) (by first | rfl | (simp only [List.length_set,(len_some hy115)]; done) | (simp only [List.length_set,(len_some hy115)]; rfl))
def laws_heldFileS_l1 (N : Nat) (x1 : (List File)) : Nat → Int → Int → Option ((Int) ⊕ (Int))
 | 0,_,_ => none
 | m + 1,x373,x374 =>
 (if (decide (x374 < (x1.length : Int))) = true then
 (at? x1 x374).bind fun x449 =>
 (laws_markText N x373).bind fun y450 =>
 (if (!decide (x449.Name = y450)) = true then
 some (Sum.inl (-1 : Int))
 else
 (at? x1 x374).bind fun x459 =>
 (laws_markText N (w64 (x373 + 1))).bind fun y460 =>
 (if (!decide (x459.Text = y460)) = true then
 some (Sum.inl (-1 : Int))
 else
 laws_heldFileS_l1 N x1 m (w64 ((w64 (x373 + 1)) + 1)) (w64 (x374 + 1))))
 else
 some (Sum.inr x373))
def laws_heldFileS_l1_r (N : Nat) (x1 : (List File)) : (List File) → Int → Int → Option ((Int) ⊕ (Int))
 | [],x373,x374 =>
 some (Sum.inr x373)
 | hd :: tl,x373,x374 =>
 (some hd).bind fun x449 =>
 (laws_markText N x373).bind fun y450 =>
 (if (!decide (x449.Name = y450)) = true then
 some (Sum.inl (-1 : Int))
 else
 (some hd).bind fun x459 =>
 (laws_markText N (w64 (x373 + 1))).bind fun y460 =>
 (if (!decide (x459.Text = y460)) = true then
 some (Sum.inl (-1 : Int))
 else
 laws_heldFileS_l1_r N x1 tl (w64 ((w64 (x373 + 1)) + 1)) (w64 (x374 + 1))))
theorem laws_heldFileS_l1_rng (N : Nat) (x1 : (List File)) (hx : x1.length ≤ 1099511627776) : ∀ (d k m : Nat) (x373 : Int),x1.length = k + d → d < m → laws_heldFileS_l1 N x1 m x373 (k : Int) = laws_heldFileS_l1_r N x1 (x1.drop k) x373 (k : Int) := by
 intro d
 induction d with
 | zero =>
  intro k m x373 hd hm
  obtain ⟨m,rfl⟩ : ∃ q,m = q + 1 := ⟨m - 1,by omega⟩
  rw [laws_heldFileS_l1,if_neg (by simp; omega),List.drop_eq_nil_of_le (by omega),laws_heldFileS_l1_r]
 | succ d ih =>
  intro k m x373 hd hm
  obtain ⟨m,rfl⟩ : ∃ q,m = q + 1 := ⟨m - 1,by omega⟩
  have hk : k < x1.length := by omega
  rw [laws_heldFileS_l1,if_pos (by simp; omega),List.drop_eq_getElem_cons hk,laws_heldFileS_l1_r]
  have h1 := at_lt hk
  have h2 := w64_succ (k := k) (by omega)
  have h3 := ih (k + 1) m
  simp only [h1,h2,h3 _ (by omega) (by omega)]
theorem laws_heldFileS_l1_eq {N : Nat} (x1 : (List File)) (hx : x1.length ≤ 1099511627776) (hN : x1.length < N) (x373 : Int) : laws_heldFileS_l1 N x1 N x373 0 = laws_heldFileS_l1_r N x1 x1 x373 0 := laws_heldFileS_l1_rng N x1 hx x1.length 0 N x373 (by omega) hN
def laws_heldFileS (N : Nat) (x1 : (List File)) (x2 : Int) : Option (Int) :=
 joinP (fun (v371 : Int) =>
 some v371) fun j371 =>
 (laws_heldFileS_l1 N x1 N x2 0).bind (Sum.elim (fun v417 => some v417) (fun (v418 : Int) => j371 v418))
theorem sem_laws_heldFileS (N : Nat) (x1 : (List File)) (x2 : Int) (r : Int) (h : laws_heldFileS N x1 x2 = some r) : Says Tryd.prog 20 [RO 41 (x1.map encFile),VI x2] 0 [] (VI r) [] := by
 unfold laws_heldFileS at h
 refine Says.of_norm e Tryd.call20 e fun B hB => ?_
 have hm : B.m ≤ 1000 := by omega
 refine Run.so hm (.p e (.nil (.seqO h (fun v371 => [(1,VI v371)]) (fun (v371 : Int) => []) (fun h => ?_) (fun v371 h => ?_))))
 ·refine Run.so hm (.p e (.nil (.block ?_)))
  obtain ⟨res418,h,hk418⟩ := bindO h
  refine Run.loop (n := N) (fun m418 fr σ => ∃ (x373 : Int),∃ (x374 : Int),laws_heldFileS_l1 N x1 m418 x373 x374 = some res418 ∧ fr = [(0,RO 41 (x1.map encFile)),(1,VI x373),(5,VI x374)] ∧ σ = []) (gh_pk [0,1,5] [] hB e e e e) ⟨_,_,h,e,e⟩ ?_
  rintro m418 fr σ ⟨x373,x374,h,rfl,rfl⟩
  obtain _ | m418 := m418
  ·rw [laws_heldFileS_l1] at h; cases h
  rw [laws_heldFileS_l1] at h
  refine Run.seq (.so hm (.p2 e e (.z 9224 (Ev.lnF e) e e (.p e (.nil (.condO e h (fun g421 h => ?_) (fun g421 h => ?_)))))))
  ·refine Run.skip (.seq (.block (.seq (.seq (.draw hm hmix (.p e (.p e ?_)))))))
   obtain ⟨x449,hx449,h⟩ := bindO h
   refine OpsD.z 17416 (Ev.iaF e e hx449) e e (.p e (.p e (.p e ?_)))
   obtain ⟨y450,hy450,h⟩ := bindO h
   refine OpsD.z 17480 (Ev.call [] [] 0 (sem_laws_markText _ _ _ hy450) e e (.d1 .nil) e (.inl e) e e) e e (.p e (.nil ⟨by kernel_rfl,?_⟩))
   refine Run.condO e h (fun g451 h => ?_) (fun g451 h => ?_)
   ·refine Run.so hm (.p e (.nil (.ret ?_)))
    obtain rfl := someO h
    have h := hk418
    replace h := inlO h
    obtain rfl := someO h
    exact Ends.mkG (.inl e) e (gh_pk [0] [] hB e e e e) e e
   ·refine Run.skip (.so hm (.p3 e e e (.nil (.seq (.seq (.draw hm hmix (.p e (.p e ?_))))))))
    obtain ⟨x459,hx459,h⟩ := bindO h
    refine OpsD.z 29704 (Ev.iaF e e hx459) e e (.p e (.p e (.p e ?_)))
    obtain ⟨y460,hy460,h⟩ := bindO h
    refine OpsD.z 29768 (Ev.call [] [] 0 (sem_laws_markText _ _ _ hy460) e e (.d1 .nil) e (.inl e) e e) e e (.p e (.nil ⟨by kernel_rfl,?_⟩))
    refine Run.condO e h (fun g461 h => ?_) (fun g461 h => ?_)
    ·refine Run.so hm (.p e (.nil (.ret ?_)))
     obtain rfl := someO h
     have h := hk418
     replace h := inlO h
     obtain rfl := someO h
     exact Ends.mkG (.inl e) e (gh_pk [0] [] hB e e e e) e e
    ·exact Run.skip (.ops hm (.p3 e e e (.nil (.ops hm (.p3 e e e (.nil (⟨m418,Nat.lt_succ_self m418,_,_,(gh_pk [0,1,5] [] hB e e e e),_,_,h,e,e⟩)))))))
  ·refine Run.exit ?_
   obtain rfl := someO h
   have h := hk418
   replace h := inrO h
   exact ⟨_,_,(gh_pk [1] [] hB e e e e),_,h,e,e⟩
 ·refine Run.so hm (.p2 e e (.nil (.ret ?_)))
  obtain rfl := someO h
  exact Ends.mkG (.inl e) e (gh_pk [0] [] hB e e e e) e e
def laws_heldDisk (N : Nat) (x1 : Disk) (x2 : Int) : Option (Int) :=
 (laws_heldFileS N x1.Files x2).bind fun y109 =>
 (if (decide (y109 < 0)) = true then
 some (-1 : Int)
 else
 some y109)
theorem sem_laws_heldDisk (N : Nat) (x1 : Disk) (x2 : Int) (r : Int) (h : laws_heldDisk N x1 x2 = some r) : Says Tryd.prog 11 [.agg [RO 41 (x1.Files.map encFile)],VI x2] 0 [] (VI r) [] := by
 unfold laws_heldDisk at h
 refine Says.of_norm e Tryd.call11 e fun B hB => ?_
 have hm : B.m ≤ 1000 := by omega
 refine Run.so hm (.z 1000 (.bx e e) e e (.p e (.nil (.so hm (.p3 e e e ?_)))))
 obtain ⟨y109,hy109,h⟩ := bindO h
 refine Ops.z 5144 (Ev.call [] [] 0 (sem_laws_heldFileS _ _ _ _ hy109) e e (.d2 .nil) e (.inl e) e e) e e (.p e (.nil (.seq (.so hm (.p2 e e (.nil (.condO e h (fun g111 h => ?_) (fun g111 h => ?_))))))))
 ·refine Run.so hm (.p e (.nil (.ret ?_)))
  obtain rfl := someO h
  exact Ends.mkG (.inl e) e (gh_pk [0] [] hB e e e e) e e
 ·refine Run.skip (.so hm (.p2 e e (.nil (.ret ?_))))
  obtain rfl := someO h
  exact Ends.mkG (.inl e) e (gh_pk [0] [] hB e e e e) e e
def laws_FnExactFormatDisk (N : Nat) (x1 : (List Int)) : Option (Bool) :=
 (if (decide ((x1.length : Int) > 1048576)) = true then
 some true
 else
 (laws_toIntS N x1).bind fun y207 =>
 (spec_FormatDisk N y207).bind fun y208 =>
 (laws_toIntS N x1).bind fun y212 =>
 (impl_FormatDisk N y212).bind fun y216 =>
 (laws_eqDisk N y216.1 y208.1).bind fun y224 =>
 (if (!y224) = true then
 some false
 else
 (if ((y216.2 == y208.2) ^^ true) = true then
 some false
 else
 (laws_toIntS N x1).bind fun y234 =>
 (laws_eqIntS N y212 y234).bind fun y235 =>
 (if (!y235) = true then
 some false
 else
 (laws_markIntS N y212 1).bind fun y243 =>
 (len? y212 y243.2).bind fun y244 =>
 (if (decide (y243.1 < 0)) = true then
 some false
 else
 (laws_eqDisk N y216.1 y208.1).bind fun y255 =>
 (if (!y255) = true then
 some false
 else
 (laws_markDisk N y216.1 1).bind fun y263 =>
 (len? y216.1.Files y263.2).bind fun y264 =>
 (laws_heldDisk N (Disk.mk y263.2) 1).bind fun y268 =>
 (if (decide (y268 < 0)) = true then
 some false
 else
 (if (y268 != y263.1) = true then
 some false
 else
 (laws_toIntS N x1).bind fun y279 =>
 (impl_FormatDisk N y279).bind fun y280 =>
 (laws_eqDisk N y280.1 y208.1).bind fun y288 =>
 (if (!y288) = true then
 some false
 else
 (if ((y280.2 == y208.2) ^^ true) = true then
 some false
 else
 (laws_heldDisk N (Disk.mk y263.2) 1).bind fun y294 =>
 (if (decide (y294 < 0)) = true then
 some false
 else
 (if (y294 != y263.1) = true then
 some false
 else
 some true))))))))))))
theorem sem_laws_FnExactFormatDisk (N : Nat) (x1 : (List Int)) (r : Bool) (h : laws_FnExactFormatDisk N x1 = some r) : Says Tryd.prog 3 [RO 3 (x1.map encI)] 0 [] (VB r) [] := by
 unfold laws_FnExactFormatDisk at h
 refine Says.of_norm e Tryd.call3 e fun B hB => ?_
 have hm : B.m ≤ 1000 := by omega
 refine Run.so hm (.p e (.nil (.seq (.so hm (.p e (.z 5112 (Ev.lnF e) e e (.p e (.nil (.condO e h (fun g200 h => ?_) (fun g200 h => ?_))))))))))
 ·refine Run.so hm (.p e (.nil (.ret ?_)))
  obtain rfl := someO h
  exact Ends.mkG (.inl e) e (gh_pk [0] [] hB e e e e) e e
 ·refine Run.skip (.so hm (.p e ?_))
  obtain ⟨y207,hy207,h⟩ := bindO h
  refine Ops.z 13304 (Ev.call [] [] 1 (sem_laws_toIntS _ _ _ hy207) e e (.d1 .nil) e (.inl e) e e) e e ?_
  obtain ⟨y208,hy208,h⟩ := bindO h
  refine Ops.z 13320 (Ev.call [] [13304] 1 (sem_spec_FormatDisk _ _ _ hy208) e e (.cons (.borrow e (by decide) (lendW (fun _ => e) _ e)) .nil) e (.inr ⟨e,ownL_root ⟨own_rows (fun _ => e) _,trivial⟩⟩) e e) e e ?_
  refine Ops.p e (.p2 e e (.z 13384 (.al e e) e e (.y 13400 (.sto e e e e e e) e e (.p e (.nil (.so hm (.p e ?_)))))))
  obtain ⟨y212,hy212,h⟩ := bindO h
  refine Ops.z 17400 (Ev.call [] [] 1 (sem_laws_toIntS _ _ _ hy212) e e (.d1 .nil) e (.inl e) e e) e e (.p e (.nil (.so hm (.p e ?_))))
  obtain ⟨y216,hy216,h⟩ := bindO h
  refine Ops.z 21496 (Ev.call [] [17400] 1 (sem_impl_FormatDisk _ _ _ hy216) e e (.cons (.borrow e (by decide) (lendW (fun _ => e) _ e)) .nil) e (.inr ⟨e,ownL_root ⟨own_rows (fun _ => e) _,trivial⟩⟩) e e) e e ?_
  refine Ops.p e (.p2 e e (.z 21560 (.al e e) e e (.y 21576 (.sto e e e e e e) e e (.p e (.nil (.seq (.so hm (.p2 e e ?_))))))))
  obtain ⟨y224,hy224,h⟩ := bindO h
  refine Ops.z 25608 (Ev.call [] [21496,13320] 0 (sem_laws_eqDisk _ _ _ _ hy224) e e (.cons (.agg (.cons (.borrow e (by decide) (lendW (fun _ => e) _ e)) .nil)) (.cons (.agg (.cons (.borrow e (by decide) (lendW (fun _ => e) _ e)) .nil)) .nil)) e (.inr ⟨e,ownL_root trivial⟩) e e) e e ?_
  refine Ops.p e (.p e (.askO (x := .t 33) e h (fun g225 h => ?_) (fun g225 h => ?_)))
  ·refine Ops.gn e g225 (.gn e g225 (.gn e g225 (.z 25704 (.pkT e g225 e) e e (.nil (.condT e e (.so hm (.p e (.nil (.ret ?_)))))))))
   obtain rfl := someO h
   exact Ends.mkG (.inl e) e (gh_pk [0] [] hB e e e e) e e
  ·refine Ops.gp e g225 e (.gp e g225 e (.gp e g225 e (.z 25704 (.pkF e g225 e) e e (.nil (.condO e h (fun g226 h => ?_) (fun g226 h => ?_))))))
   ·refine Run.so hm (.p e (.nil (.ret ?_)))
    obtain rfl := someO h
    exact Ends.mkG (.inl e) e (gh_pk [0] [] hB e e e e) e e
   ·refine Run.skip (.seq (.so hm (.p2 e e ?_)))
    obtain ⟨y234,hy234,h⟩ := bindO h
    refine Ops.z 33800 (Ev.call [] [] 1 (sem_laws_toIntS _ _ _ hy234) e e (.d1 .nil) e (.inl e) e e) e e ?_
    obtain ⟨y235,hy235,h⟩ := bindO h
    refine Ops.z 33816 (Ev.call [] [17400,33800] 0 (sem_laws_eqIntS _ _ _ _ hy235) e e (.cons (.borrow e (by decide) (lendW (fun _ => e) _ e)) (.cons (.borrow e (by decide) (lendW (fun _ => e) _ e)) .nil)) e (.inr ⟨e,ownL_root trivial⟩) e e) e e ?_
    refine Ops.p e (.nil (.condO e h (fun g236 h => ?_) (fun g236 h => ?_)))
    ·refine Run.so hm (.p e (.nil (.ret ?_)))
     obtain rfl := someO h
     exact Ends.mkG (.inl e) e (gh_pk [0] [] hB e e e e) e e
    ·refine Run.skip (.so hm (.p e (.nil (.so hm (.p2 e e ?_)))))
     obtain ⟨y243,hy243,h⟩ := bindO h
     obtain ⟨y244,hy244,h⟩ := bindO h
     refine Ops.z 46088 (Ev.call [17400] [] 0 (sem_laws_markIntS _ _ _ _ hy243) e e (.cons (.sl e) (.d1 .nil)) e (.inl e) e e) e e (.p e (.nil (.seq (.so hm (.p3 e e e (.askO (x := .t 48) e h (fun g254 h => ?_) (fun g254 h => ?_)))))))
     ·refine Ops.gn e g254 (.gn e g254 (.gn e g254 (.gn e g254 (.z 50264 (.pkT e g254 e) e e (.p e (.gn e e (.gn e e (.gn e e (.z 50344 (.pkT e e e) e e (.nil (.condT e e (.so hm (.p e (.nil (.ret ?_)))))))))))))))
      obtain rfl := someO h
      exact Ends.mkG (.inl e) e (gh_pk [0] [] hB e e e e) e e
     ·refine Ops.gp e g254 e (.gp e g254 e ?_)
      obtain ⟨y255,hy255,h⟩ := bindO h
      refine Ops.gs (s := 50232) e g254 (Ev.call [] [21496,13320] 0 (sem_laws_eqDisk _ _ _ _ hy255) e e (.cons (.agg (.cons (.borrow e (by decide) (lendW (fun _ => e) _ e)) .nil)) (.cons (.agg (.cons (.borrow e (by decide) (lendW (fun _ => e) _ e)) .nil)) .nil)) e (.inr ⟨e,ownL_root trivial⟩) e e) e e ?_
      refine Ops.gp e g254 e (.z 50264 (.pkF e g254 e) e e (.p e (.askO (x := .t 54) e h (fun g256 h => ?_) (fun g256 h => ?_))))
      ·refine Ops.gn e g256 (.gn e g256 (.gn e g256 (.z 50344 (.pkT e g256 e) e e (.nil (.condT e e (.so hm (.p e (.nil (.ret ?_)))))))))
       obtain rfl := someO h
       exact Ends.mkG (.inl e) e (gh_pk [0] [] hB e e e e) e e
      ·refine Ops.gp e g256 e (.gp e g256 e (.gp e g256 e (.z 50344 (.pkF e g256 e) e e (.nil (.condF e g226 (.skip (.so hm (.p e (.nil (.so hm (.p2 e e ?_)))))))))))
       obtain ⟨y263,hy263,h⟩ := bindO h
       obtain ⟨y264,hy264,h⟩ := bindO h
       refine Ops.z 62472 (Ev.call [21496] [] 0 (sem_laws_markDisk _ _ _ _ hy263) e e (.cons (.agg (.cons (.sl e) .nil)) (.d1 .nil)) e (.inl e) e e) e e (.p e (.nil (.so hm (.p e (.nil (.so hm (.p2 e e ?_)))))))
       obtain ⟨y268,hy268,h⟩ := bindO h
       refine Ops.z 70664 (Ev.call [] [21496] 0 (sem_laws_heldDisk _ _ _ _ hy268) e e (.cons (.agg (.cons (.borrow e (by decide) (lendW (fun _ => e) _ (len_some hy264))) .nil)) (.d1 .nil)) e (.inr ⟨e,ownL_root trivial⟩) e e) e e ?_
       refine Ops.p e (.nil (.seq (.so hm (.p2 e e (.nil (.condO e h (fun g270 h => ?_) (fun g270 h => ?_)))))))
       ·refine Run.so hm (.p e (.nil (.ret ?_)))
        obtain rfl := someO h
        exact Ends.mkG (.inl e) e (gh_pk [0] [] hB e e e e) e e
       ·refine Run.skip (.seq (.so hm (.p3 e e e (.nil (.condO e h (fun g272 h => ?_) (fun g272 h => ?_))))))
        ·refine Run.so hm (.p e (.nil (.ret ?_)))
         obtain rfl := someO h
         exact Ends.mkG (.inl e) e (gh_pk [0] [] hB e e e e) e e
        ·refine Run.skip (.so hm (.p e ?_))
         obtain ⟨y279,hy279,h⟩ := bindO h
         refine Ops.z 91128 (Ev.call [] [] 1 (sem_laws_toIntS _ _ _ hy279) e e (.d1 .nil) e (.inl e) e e) e e ?_
         obtain ⟨y280,hy280,h⟩ := bindO h
         refine Ops.z 91144 (Ev.call [] [91128] 1 (sem_impl_FormatDisk _ _ _ hy280) e e (.cons (.borrow e (by decide) (lendW (fun _ => e) _ e)) .nil) e (.inr ⟨e,ownL_root ⟨own_rows (fun _ => e) _,trivial⟩⟩) e e) e e ?_
         refine Ops.p e (.p2 e e (.z 91208 (.al e e) e e (.y 91224 (.sto e e e e e e) e e (.p e (.nil (.seq (.so hm (.p2 e e ?_))))))))
         obtain ⟨y288,hy288,h⟩ := bindO h
         refine Ops.z 95240 (Ev.call [] [91144,13320] 0 (sem_laws_eqDisk _ _ _ _ hy288) e e (.cons (.agg (.cons (.borrow e (by decide) (lendW (fun _ => e) _ e)) .nil)) (.cons (.agg (.cons (.borrow e (by decide) (lendW (fun _ => e) _ e)) .nil)) .nil)) e (.inr ⟨e,ownL_root trivial⟩) e e) e e ?_
         refine Ops.p e (.p e (.askO (x := .t 80) e h (fun g289 h => ?_) (fun g289 h => ?_)))
         ·refine Ops.gn e g289 (.gn e g289 (.gn e g289 (.z 95336 (.pkT e g289 e) e e (.nil (.condT e e (.so hm (.p e (.nil (.ret ?_)))))))))
          obtain rfl := someO h
          exact Ends.mkG (.inl e) e (gh_pk [0] [] hB e e e e) e e
         ·refine Ops.gp e g289 e (.gp e g289 e (.gp e g289 e (.z 95336 (.pkF e g289 e) e e (.nil (.condO e h (fun g290 h => ?_) (fun g290 h => ?_))))))
          ·refine Run.so hm (.p e (.nil (.ret ?_)))
           obtain rfl := someO h
           exact Ends.mkG (.inl e) e (gh_pk [0] [] hB e e e e) e e
          ·refine Run.skip (.so hm (.p e (.nil (.so hm (.p2 e e ?_)))))
           obtain ⟨y294,hy294,h⟩ := bindO h
           refine Ops.z 107528 (Ev.call [] [21496] 0 (sem_laws_heldDisk _ _ _ _ hy294) e e (.cons (.agg (.cons (.borrow e (by decide) (lendW (fun _ => e) _ (len_some hy264))) .nil)) (.d1 .nil)) e (.inr ⟨e,ownL_root trivial⟩) e e) e e ?_
           refine Ops.p e (.nil (.seq (.so hm (.p2 e e (.nil (.condO e h (fun g296 h => ?_) (fun g296 h => ?_)))))))
           ·refine Run.so hm (.p e (.nil (.ret ?_)))
            obtain rfl := someO h
            exact Ends.mkG (.inl e) e (gh_pk [0] [] hB e e e e) e e
           ·refine Run.skip (.seq (.so hm (.p3 e e e (.nil (.condO e h (fun g297 h => ?_) (fun g297 h => ?_))))))
            ·refine Run.so hm (.p e (.nil (.ret ?_)))
             obtain rfl := someO h
             exact Ends.mkG (.inl e) e (gh_pk [0] [] hB e e e e) e e
            ·refine Run.skip (.so hm (.p e (.nil (.ret ?_))))
             obtain rfl := someO h
             exact Ends.mkG (.inl e) e (gh_pk [0] [] hB e e e e) e e
end Go.Proofs.YteoobblblpljfaaDoor.Pe.FnExactFormatDisk
