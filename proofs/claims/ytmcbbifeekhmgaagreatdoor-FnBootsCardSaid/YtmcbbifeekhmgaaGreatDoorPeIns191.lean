import Derived.Test.YtmcbbifeekhmgaaGreatDoorPeSpec
import Derived.Test.YtmcbbifeekhmgaaGreatDoorShelf
import Derived.Test.YtmcbbifeekhmgaaGreatDoorProg
import Derived.WalkKit
import Derived.BigCall
namespace Go.Proofs.YtmcbbifeekhmgaaGreatDoor.Pe
open Go Go.RowKit Go.Sort
set_option linter.unusedVariables false
set_option linter.unusedSimpArgs false
set_option maxHeartbeats 4000000
set_option maxRecDepth 100000
theorem dec191 (n:Int)(h0: -9223372036854775808<=n)(h1:n<=9223372036854775807)(w:World)(ht:Lib.TabIs Tryz.prog w "internal/strconv.uint64pow10" .u64 Lib.pow10Tab):
  Calls Tryz.prog 102 #[.int .i64 n] w λe w'=>e=.returned (.string ⟨(Lib.itoa n).toArray⟩)/\Kept w w':=by
 go_enter Tryz.func102,Tryz.ntmps102
 go_wp2_with (go_at_call 189;refine(Go.Proofs.Tryz.strconv_Itoa n h0 h1 _ ht).mono ?_;rintro e w1 ⟨rfl,k,os,rfl⟩)
 go_ret
 exact⟨rfl,Kept.grow w k os⟩
theorem win191 (n a b:Int)(w:World):Calls Tryz.prog 47 #[.int .i64 n,.int .i64 a,.int .i64 b] w λe w'=>e=.returned (.bool (decide (a<=n/\n<=b)))/\w'=w:=by
 by_cases h1:a<=n<;>by_cases h2:n<=b
 all_goals go_enter Tryz.func47,Tryz.ntmps47
 all_goals go_wp2
 all_goals go_ret
 all_goals exact⟨by simp[h1,h2],rfl⟩
theorem ins191 (t:ByteArray)(ht:t.size<=281474976710656)(w:World)(htab:Lib.TabIs Tryz.prog w "internal/strconv.uint64pow10" .u64 Lib.pow10Tab)(he1:∃tp p,w.var? Tryz.prog "strconv.ErrSyntax" =some #[.iface tp p])(he2:∃tp p,w.var? Tryz.prog "strconv.ErrRange" =some #[.iface tp p]):
  Calls Tryz.prog 191 #[.string t] w λe w'=>e=.returned (.tuple #[.int .i64 (rdecN t).1,.bool (rdecN t).2])/\Kept w w':=by
 obtain⟨tp1,p1,he1⟩:=he1
 obtain⟨tp2,p2,he2⟩:=he2
 cases h:Lib.atoiAll t.data.toList with
 |ok v=>
  have hb:=Lib.atoiAll_bounds h
  have hc:=Go.Proofs.Tryz.strconv_Atoi_ok t (by omega) v h w
  have hr:rdecN t=if 0<=v/\v<=1000000000/\(⟨(Lib.itoa v).toArray⟩:ByteArray)=t then(v,true)else(0,false):=by unfold rdecN;rw[h];simp only[itoaL_eq]
  have hc2:Calls Tryz.prog 240 #[.string t] w λe w'=>e=.returned (.tuple #[.int .i64 v,.nilIface])/\Kept w w':=hc.mono (by
   rintro e w' ⟨h1,rfl|⟨z,rfl⟩⟩
   ·exact⟨h1,Kept.refl _⟩
   ·exact⟨h1,Kept.of_below (Lib.bytesWorld_below _ _ _)⟩)
  clear hc
  have hd:∀W,Lib.TabIs Tryz.prog W "internal/strconv.uint64pow10" .u64 Lib.pow10Tab->Calls Tryz.prog 102 #[.int .i64 v] W λe w'=>e=.returned (.string ⟨(Lib.itoa v).toArray⟩)/\Kept W w':=λW hW=>dec191 v hb.1 hb.2 W hW
  generalize (⟨(Lib.itoa v).toArray⟩:ByteArray)=s at hr hd
  by_cases h1:s=t
  ·by_cases h2:0<=v/\v<=1000000000
   ·rw[if_pos ⟨h2.1,h2.2,h1⟩]at hr
    rw[hr]
    go_enter Tryz.func191,Tryz.ntmps191
    go_wp2_with (first
  |(go_at_call 240;refine hc2.mono ?_;rintro e w1 ⟨rfl,k1⟩)
  |(go_at_call 102;refine(hd _ (tab_kept k1 htab)).mono ?_;rintro e w2 ⟨rfl,k2⟩)
  |(go_at_call 47;refine(win191 v 0 1000000000 _).mono ?_;rintro e w3 ⟨rfl,rfl⟩))
    go_ret2
    exact⟨rfl,k1.trans k2⟩
   ·rw[if_neg (λh=>h2 ⟨h.1,h.2.1⟩)]at hr
    rw[hr]
    go_enter Tryz.func191,Tryz.ntmps191
    go_wp2_with (first
  |(go_at_call 240;refine hc2.mono ?_;rintro e w1 ⟨rfl,k1⟩)
  |(go_at_call 102;refine(hd _ (tab_kept k1 htab)).mono ?_;rintro e w2 ⟨rfl,k2⟩)
  |(go_at_call 47;refine(win191 v 0 1000000000 _).mono ?_;rintro e w3 ⟨rfl,rfl⟩))
    go_ret2
    exact⟨rfl,k1.trans k2⟩
  ·rw[if_neg (λh=>h1 h.2.2)]at hr
   have h3:¬s.toList=t.toList:=λe=>h1 (by
    rw[ByteArray.toList_eq,ByteArray.toList_eq]at e
    exact ByteArray.ext (Array.toList_inj.1 e))
   rw[hr]
   go_enter Tryz.func191,Tryz.ntmps191
   go_wp2_with (first
  |(go_at_call 240;refine hc2.mono ?_;rintro e w1 ⟨rfl,k1⟩)
  |(go_at_call 102;refine(hd _ (tab_kept k1 htab)).mono ?_;rintro e w2 ⟨rfl,k2⟩)
  |(go_at_call 47;refine(win191 v 0 1000000000 _).mono ?_;rintro e w3 ⟨rfl,rfl⟩))
   go_ret2
   exact⟨rfl,k1.trans k2⟩
 |range=>
  have hr:rdecN t=(0,false):=by unfold rdecN;rw[h]
  rw[hr]
  go_enter Tryz.func191,Tryz.ntmps191
  go_wp2_with (go_at_call 240;refine(Go.Proofs.Tryz.strconv_Atoi_range_var t ht h tp2 p2 _ ?_).mono ?_)
  ·exact he2
  rintro e W1 ⟨N,rfl,-,-,hb⟩
  go_wp2
  go_ret2
  exact⟨rfl,Kept.of_below hb⟩
 |_=>
  have hr:rdecN t=(0,false):=by unfold rdecN;rw[h]
  rw[hr]
  go_enter Tryz.func191,Tryz.ntmps191
  go_wp2_with (go_at_call 240;refine(Go.Proofs.Tryz.strconv_Atoi_syntax_var t ht h tp1 p1 _ ?_).mono ?_)
  ·exact he1
  rintro e W1 ⟨N,rfl,-,-,hb⟩
  go_wp2
  go_ret2
  exact⟨rfl,Kept.of_below hb⟩
end Go.Proofs.YtmcbbifeekhmgaaGreatDoor.Pe
