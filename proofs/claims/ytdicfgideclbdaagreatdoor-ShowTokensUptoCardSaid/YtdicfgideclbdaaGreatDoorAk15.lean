import Derived.Test.YtdicfgideclbdaaGreatDoorAk14
set_option maxHeartbeats 64000000
set_option linter.all false
namespace Go.Proofs.YtdicfgideclbdaaGreatDoor
open Go Go.TL
attribute [local irreducible] TR TO Then zaj RetK Sound zac Kf GG zaQ
def idxI{α:Type}(p:α->Bool):List α->Int
 | []=>-1
 | x::l=>if p x then 0 else if idxI p l<0 then -1 else idxI p l+1
theorem zfx{α:Type}(p:α->Bool):∀(l:List α) (k:Nat) (h:k<l.length),(l.take k).all (fun x=>!p x)=true->p l[k]=true->idxI p l=k
 | x::l,0,_,_,hp=>by simp at hp;simp[idxI,hp]
 | x::l,k+1,h,ha,hp=>by
   simp only[qaO,qbH,qar,qbA]at ha
   have:=zfx p l k (by simpa using h) ha.2 (by simpa using hp)
   rw[idxI,oH (by simp[ha.1]),this,oH oA];omega
theorem zfZ{α:Type}(p:α->Bool):∀(l:List α),l.all (fun x=>!p x)=true->idxI p l= -1
 | [],_=>rfl
 | x::l,ha=>by
   simp only[qbH,qar,qbA]at ha;rw[idxI,oH (by simp[ha.1]),zfZ p l ha.2];rfl
theorem zgy{α:Type}(p:α->Bool):∀(l:List α),idxI p l= -1\/∃k:Nat,∃h:k<l.length,idxI p l=k/\p l[k]=true
 | []=>.inl rfl
 | x::l=>by
   unfold idxI;by_cases hx:p x=true
   ·rw[oG hx];exact .inr ⟨0,oC,rfl,by simpa using hx⟩
   ·rw[oH hx];rcases zgy p l with h|⟨k,hk,h,hp⟩
    ·rw[h];exact .inl rfl
    ·rw[h,oH oA];exact .inr ⟨k+1,by simpa using hk,oA,by simpa using hp⟩
abbrev zaw (l:List Decl):T:=.sl 3 (l.map zak)
abbrev zb0 (l:List Nod):T:=.sl 8 (l.map nodT)
def zbr(p:Prog):List T:=[.sl 2 (p.enums.map enT),zb0 p.nodes]
structure zyB (n:Nod):Prop where
 ins:n.ins.length≤100000000
 outs:n.outs.length≤100000000
 locals:n.locals.length≤100000000
abbrev nC(d:Nod):List T:=[.s d.name,zaw d.ins,zaw d.outs,zaw d.locals,.sl 7 (d.eqs.map equT),.sl 1 (d.autos.map zam),.sl 6 (d.assume.map exT),.sl 6 (d.ensure.map exT)]
def nodC(d:Nod):List T:=[.s d.name,zaw d.ins,zaw d.outs,zaw d.locals,.sl 7 (d.eqs.map equT),.sl 1 (d.autos.map zam),.sl 6 (d.assume.map exT),.sl 6 (d.ensure.map exT)]
def zfR(d:Decl):List T:=[.s d.name,T.n d.ty,.sl 3 (d.clock.map onT)]
theorem zou{l:List Nod}{k:Nat}(h:k<l.length):(l.map nodT)[k]?=some (.ag (nodC l[k])):=zbc nodT h
theorem zd4{l:List Decl}{k:Nat}(h:k<l.length):(l.map zak)[k]?=some (.ag (zfR l[k])):=zbc zak h
end Go.Proofs.YtdicfgideclbdaaGreatDoor
