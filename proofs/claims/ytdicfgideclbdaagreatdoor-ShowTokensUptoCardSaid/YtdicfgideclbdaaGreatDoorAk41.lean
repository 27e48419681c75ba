import Derived.Test.YtdicfgideclbdaaGreatDoorAk34
set_option maxHeartbeats 64000000
set_option linter.all false
namespace Go.Proofs.YtdicfgideclbdaaGreatDoor
open Go Go.TL
attribute [local irreducible] TR TO Then zaj RetK Sound zac Kf GG zaQ
theorem zrh{R:Rd}{f:Nat->PR Ex}:∀ {m:Nat} {xs:List Ex} {i:Nat},R.isAt i [44]=false->R.args f m xs i= .ok xs i
 | 0,_,_,_=>rfl
 | m+1,xs,i,h=>by rw[Rd.args,h,oH oB]
end Go.Proofs.YtdicfgideclbdaaGreatDoor
