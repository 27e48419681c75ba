import Derived.Test.YtdicfgideclbdaaGreatDoorAk8
set_option maxHeartbeats 64000000
set_option linter.all false
namespace Go.Proofs.YtdicfgideclbdaaGreatDoor
open Go Go.TL
attribute [local irreducible] TR TO Then zaj RetK Sound zac Kf GG zaQ
def letter(c:Int):Bool:=(decide (97≤c) && decide (c≤122)) || (decide (65≤c) && decide (c≤90))
def digit(c:Int):Bool:=decide (48≤c) && decide (c≤57)
def inner(c:Int):Bool:=letter c || digit c || c == 95
abbrev u8 (c:Int):SV:=.t (.v (.int .u8 c))
theorem zdu(c:Int):Pure Tryz.prog 53 [u8 c] (.b (letter c)):=by
 refine so Tryz.func53 ?_;repeat' (first|refine wk ?_|exact wkc|refine wk2 ?_ ?_|intro hc)
 all_goals try(refine RetK.pure rfl ?_ rfl;exact Le.of_eq (by simp_all [pack,letter] <;> omega))
theorem zft(c:Int):Pure Tryz.prog 55 [u8 c] (.b (digit c)):=by
 refine so Tryz.func55 ?_;repeat' (first|refine wk ?_|exact wkc|refine wk2 ?_ ?_|intro hc)
 all_goals try(refine RetK.pure rfl ?_ rfl;exact Le.of_eq (by simp_all [pack,digit] <;> omega))
theorem zif(c:Int):Pure Tryz.prog 108 [u8 c] (.b (inner c)):=by
 refine so Tryz.func108 ?_;repeat' (first|refine wk ?_|exact wkc|refine wk2 ?_ ?_|refine wb (zdu _) ?_ ?_|refine wb (zft _) ?_ ?_|intro hc)
 all_goals try(refine RetK.pure rfl ?_ rfl;exact Le.of_eq (by simp_all [pack,inner] <;> omega))
def kws:List Str:=[
 [97,115,115,117,109,101],[97,110,100],[97,117,116,111,109,97,116,111,110],[98,111,111,108],[99,111,110,116,105,110,117,101],[100,111],[100,111,110,101],[101,108,115,101],[101,110,100],[101,110,115,117,114,101],[101,118,101,114,121],[102,97,108,115,101],[102,98,121],[105,102],[105,110,116],[108,101,116],[109,101,114,103,101],[109,111,100],[110,111,100,101],[110,111,116],[111,114],[112,114,101],[114,101,116,117,114,110,115],[115,116,97,116,101],[116,101,108],[116,104,101,110],[116,114,117,101],[116,121,112,101],[117,110,108,101,115,115],[117,110,116,105,108],[118,97,114],[119,104,101,110],[120,111,114]]
def keyword(s:Str):Bool:=kws.any fun w=>s == w
theorem zch (s:Str):Pure Tryz.prog 109 [.s s] (.b (keyword s)):=by
 refine so Tryz.func109 ?_;repeat' (first|refine wk ?_|exact wkc|refine wk2 ?_ ?_|intro hc)
 all_goals refine RetK.pure rfl ?_ rfl
 all_goals exact Le.of_eq (by simp[keyword,kws,pack, *])
def zjD(c:UInt8):Bool:=inner c.toNat
def znJ(c:UInt8):Bool:=letter c.toNat
def ident(s:Str):Bool:=
 match s with
 | []=>false
 | c::r=>decide (r.length+1≤40) && znJ c && !keyword (c::r) && (c::r).all zjD
theorem zid(s:Str):Pure Tryz.prog 152 [.s s] (.b (ident s)):=by
 refine so Tryz.func152 ?_;cases s with
 | nil=>
   repeat' (first|refine wk ?_|exact wkc|refine wk2 ?_ ?_|refine wb (zdu _) ?_ ?_|refine wb (zch _) ?_ ?_|intro hc)
   all_goals try(refine RetK.pure rfl ?_ rfl;exact Le.of_eq (by simp_all [pack,ident] <;> omega))
 | cons c r=>
   repeat' (first|refine wk ?_|exact wkc|refine wk2 ?_ ?_|refine wb (zdu _) ?_ ?_|refine wb (zch _) ?_ ?_|intro hc)
   all_goals try(refine RetK.pure rfl ?_ rfl;exact Le.of_eq (by simp_all [pack,ident,znJ] <;> omega))
   refine TR.zaz (c::r).length (fun k=>((c::r).take k).all zjD=true) (fun k=>[(0,.s (c::r)),(22,.i (c::r).length),(23,.i k)]) (fun _=>[]) rfl (fun k hlt ha=>?_) (fun ha=>?_)
   ·have hx:=qad hlt;repeat' (first|refine wk ?_|exact wkc|refine wk2 ?_ ?_|refine wb (zif _) ?_ ?_|intro hc)
    ·refine zac.zaH hlt ?_;rw[qaE hlt,qbY,ha];simpa [zjD]using hc
    ·refine RetK.pure rfl (Le.of_eq ?_) rfl
     have:(c::r).all zjD=false:=by
      rw[List.all_eq_false];exact⟨_,qak hlt,by simpa [zjD]using hc⟩
     simp only[pack,ident,this];simp
   ·refine yd ?_;rw[qap]at ha;refine RetK.pure rfl (Le.of_eq ?_) rfl
    simp_all [pack,ident,znJ]
    omega
end Go.Proofs.YtdicfgideclbdaaGreatDoor
