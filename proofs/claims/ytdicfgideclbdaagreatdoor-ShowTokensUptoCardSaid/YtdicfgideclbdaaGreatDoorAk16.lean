import Derived.Test.YtdicfgideclbdaaGreatDoorAk15
set_option maxHeartbeats 64000000
set_option linter.all false
namespace Go.Proofs.YtdicfgideclbdaaGreatDoor
open Go Go.TL
attribute [local irreducible] TR TO Then zaj RetK Sound zac Kf GG zaQ
structure Arity (e:Ex):Prop where
 kind:1≤e.kind.1/\e.kind.1≤11
 k4:e.kind.1=4->e.args.length=3
 k5:e.kind.1=5->e.args.length=1
 more:6≤e.kind.1->e.kind.1≤9->1≤e.args.length
 v:e.kind.1=10->e.v.1=0\/e.v.1=1
theorem zt4{e:Ex}(h:oneX e=0):Arity e:=by
 unfold oneX at h;rw[zsK _ _ _ _ _ _ oA]at h
 have hf:zi6 e.kind.1 e.op.1 e.t.1 e.v.1 e.name e.args.length=true:=by
  exact zwbv
 clear h;unfold zi6 at hf;split at hf
 ·cases hf
 rename_i h1
 have ha:zlj e.kind.1 e.op.1 e.t.1 e.v.1 e.args.length=true:=by
  exact zwcl
 unfold zlj at ha;refine⟨oA,fun hk=>?_,fun hk=>?_,fun hk1 hk2=>?_,fun hk=>?_⟩
 ·rw[hk]at ha;simp at ha;omega
 ·rw[hk]at ha;simp at ha;omega
 ·have:e.kind.1=6\/e.kind.1=7\/e.kind.1=8\/e.kind.1=9:=oA
  rcases this with hk|hk|hk|hk <;> rw[hk]at ha <;> simp at ha
  ·omega
  ·omega
  ·omega
  ·split at ha <;> omega
 ·rw[hk]at hf;simp at hf;grind
end Go.Proofs.YtdicfgideclbdaaGreatDoor
