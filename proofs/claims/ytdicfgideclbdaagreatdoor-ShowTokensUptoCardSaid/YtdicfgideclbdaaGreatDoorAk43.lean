import Derived.Test.YtdicfgideclbdaaGreatDoorAk42
set_option maxHeartbeats 64000000
set_option linter.all false
namespace Go.Proofs.YtdicfgideclbdaaGreatDoor
open Go Go.TL
attribute [local irreducible] TR TO Then zaj RetK Sound zac Kf GG zaQ
variable {R:Rd}{f:Nat->PR Ex}{xs:List Ex}{j:Nat}
abbrev mB (t:Int)(s:Str)(a:SV):Blk:=.cells [.t (.i 9),.t (.v (.int .i64 0)),.t (.v (.int .i64 t)),.t (.v (.int .i64 0)),.t (.s s),a]
def Rd.mrest(R:Rd)(f:Nat->PR Ex)(s:Str)(t m k:Nat)(xs:List Ex)(j:Nat):PR Ex:=(R.branches f t (R.size t) m k xs j).bind fun l j=>.ok (mkE 9 0 t 0 s l) j
def Rd.mA(R:Rd)(f:Nat->PR Ex)(s:Str)(w j:Nat):PR Ex:=(R.branch f 0 w false j).bind fun te j=>R.mrest f s te.1 (R.size te.1) 1 ((List.replicate (R.size te.1) noE).set w te.2) j
theorem zuG(R:Rd)(f:Nat->PR Ex)(i:Nat):R.merge f i=(R.id i).bind fun s j=>R.mA f s (if R.isAt (j+1) [116,114,117,101]=true then 1 else 0) j:=rfl
theorem zsy{s:Str}{t m k:Nat}(h:R.size t≤k):R.mrest f s t m k xs j= .ok (mkE 9 0 t 0 s xs) j:=by
 unfold Rd.mrest;cases m with
 | zero=>rfl
 | succ m=>rw[Rd.branches,oG h];rfl
theorem zqF{s:Str}{t m k:Nat}(h:k<R.size t):R.mrest f s t (m+1) k xs j=(R.branch f t (if t=1 then 1-k else k) true j).bind fun te j=>R.mrest f s t m (k+1) (xs.set (if t=1 then 1-k else k) te.2) j:=by
 unfold Rd.mrest;rw[Rd.branches,oH oA];cases R.branch f t (if t=1 then 1-k else k) true j <;> rfl
theorem st4{a b c d:Blk}{x y:List SV}(h:x=y):[a,b,c,d].set 3 (Blk.cells x)=[a,b,c,.cells y]:=by subst h;rfl
abbrev zE:List T:=[.v (.int .i64 0),.v (.int .i64 0),.v (.int .i64 0),.v (.int .i64 0),.v (str []),.v (.slice none 0 0)]
theorem zpl:∀(q:Nat) (c':T),(exC noE)[q]?=some c'->∃c,zE[q]?=some c/\Le (.t c) (.t c')
 | 0,_,h=>by cases h;exact⟨_,rfl,Le.refl _⟩
 | 1,_,h=>by cases h;exact⟨_,rfl,Le.refl _⟩
 | 2,_,h=>by cases h;exact⟨_,rfl,Le.refl _⟩
 | 3,_,h=>by cases h;exact⟨_,rfl,Le.refl _⟩
 | 4,_,h=>by cases h;exact⟨_,rfl,Le.refl _⟩
 | 5,_,h=>by cases h;exact⟨_,rfl,Le.nil _⟩
 | q+6,_,h=>by simp[exC]at h
end Go.Proofs.YtdicfgideclbdaaGreatDoor
