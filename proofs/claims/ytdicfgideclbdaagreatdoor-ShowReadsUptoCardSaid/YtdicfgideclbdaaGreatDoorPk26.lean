import Derived.RegionTactic
import Derived.Test.YtdicfgideclbdaaGreatDoorPk12
set_option maxHeartbeats 64000000
namespace Go.Proofs.YtdicfgideclbdaaGreatDoor
open Go Go.TL Go.RowKit
set_option maxRecDepth 100000 in
theorem zlb (b o g cap cells:Nat) (l:Str) (h0:l≠ []) (w:World) (hc:w.cell? ⟨b,o+1,none⟩=some (.slice (some ⟨g,0,none⟩) l.length cap)) (hcap:l.length≤cap) (hcl:l.length≤cells) (hsh:w.shape? g=some (5,cells)) (h63:l.length≤9223372036854775807)
  (hcell:∀(j:Nat) x,l[j]?=some x->w.cell? ((⟨g,0,none⟩:Addr).add j)=some (.int .u8 x.toNat)):
  Calls Tryz.prog 23 #[.pointer (some ⟨b,o,none⟩)] w fun e w'=>e= .returned (.string ⟨l.toArray⟩)/\w'=w.drew.freeze ⟨g,0,none⟩ l.length:=by
 have hl0:l.length≠0:=by simpa using h0
 have c1:w.drew.cell? ⟨b,o+1,none⟩=some (.slice (some ⟨g,0,none⟩) l.length cap):=hc
 have hSD:(Builtin.unsafeSliceData_ #[73] 127 #[.slice (some ⟨g,0,none⟩) l.length cap]).run Tryz.prog w.drew= .ok (.pointer (some ⟨g,0,none⟩)) w.drew:=
  Lib.run_unsafeSliceData_row _ _ _ _ _ _ oA
 have hUS:(Builtin.unsafeString_ #[127,3] 9 #[.pointer (some ⟨g,0,none⟩),.int .i64 l.length]).run Tryz.prog w.drew= .ok (.string ⟨l.toArray⟩) (w.drew.freeze ⟨g,0,none⟩ l.length):=
  Lib.run_unsafeString_row w.drew 127 3 9 5 oD oD g cells hsh l h0 hcl h63 hcell
 clear hc hsh hcell
 go_enter Tryz.func23,Tryz.ntmps23
 go_wp2
 go_region
 all_goals(go_wp2;go_ret;exact⟨rfl,rfl⟩)
set_option maxRecDepth 100000 in
theorem zla (b o:Nat) (w:World) (c1:w.drew.cell? ⟨b,o+1,none⟩=some (.slice none 0 0)):
  Calls Tryz.prog 23 #[.pointer (some ⟨b,o,none⟩)] w fun e w'=>e= .returned (.string ⟨#[]⟩)/\w'=w.drew:=by
 have hSD:(Builtin.unsafeSliceData_ #[73] 127 #[.slice none 0 0]).run Tryz.prog w.drew= .ok (.pointer none) w.drew:=Lib.run_unsafeSliceData_nil _ _ _ _ _;have hUS:(Builtin.unsafeString_ #[127,3] 9 #[.pointer none,.int .i64 0]).run Tryz.prog w.drew= .ok (.string ⟨#[]⟩) w.drew:=Lib.run_unsafeString_none _ _ _ _ _
 go_enter Tryz.func23,Tryz.ntmps23
 go_wp2
 go_region
 all_goals(go_wp2;go_ret;exact⟨rfl,rfl⟩)
set_option maxRecDepth 100000 in
theorem zlc (b o g cap:Nat) (hcap:0<cap) (w:World) (c1:w.drew.cell? ⟨b,o+1,none⟩=some (.slice (some ⟨g,0,none⟩) 0 cap)):
  Calls Tryz.prog 23 #[.pointer (some ⟨b,o,none⟩)] w fun e w'=>e= .returned (.string ⟨#[]⟩)/\w'=w.drew:=by
 have hSD:(Builtin.unsafeSliceData_ #[73] 127 #[.slice (some ⟨g,0,none⟩) 0 cap]).run Tryz.prog w.drew= .ok (.pointer (some ⟨g,0,none⟩)) w.drew:=
  Lib.run_unsafeSliceData_row _ _ _ _ _ _ oA
 have hUS:(Builtin.unsafeString_ #[127,3] 9 #[.pointer (some ⟨g,0,none⟩),.int .i64 0]).run Tryz.prog w.drew= .ok (.string ⟨#[]⟩) w.drew:=Lib.run_unsafeString_none _ _ _ _ _
 go_enter Tryz.func23,Tryz.ntmps23
 go_wp2
 go_region
 all_goals(go_wp2;go_ret;exact⟨rfl,rfl⟩)
theorem zqw(w:World):Keeps w w.drew:=⟨rfl,rfl,rfl,qag _,fun _ _=>rfl⟩
end Go.Proofs.YtdicfgideclbdaaGreatDoor
