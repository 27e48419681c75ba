import Derived.Test.YtdicfgideclbdaaGreatDoorPk17
set_option maxHeartbeats 64000000
set_option linter.all false
namespace Go.Proofs.YtdicfgideclbdaaGreatDoor
open Go Go.TL
attribute [local irreducible] TR TO Then zal RetK Sound zab Kf GG zaR
def idxI{α:Type}(p:α->Bool):List α->Int
 | []=>-1
 | x::l=>if p x then 0 else if idxI p l<0 then -1 else idxI p l+1
theorem zfr{α:Type}(p:α->Bool):∀(l:List α) (k:Nat) (h:k<l.length),(l.take k).all (fun x=>!p x)=true->p l[k]=true->idxI p l=k
 | x::l,0,_,_,hp=>by simp at hp;simp[idxI,hp]
 | x::l,k+1,h,ha,hp=>by
   simp only[qaM,qbF,qar,qbA]at ha
   have:=zfr p l k (by simpa using h) ha.2 (by simpa using hp)
   rw[idxI,oH (by simp[ha.1]),this,oH oA];omega
theorem zfU{α:Type}(p:α->Bool):∀(l:List α),l.all (fun x=>!p x)=true->idxI p l= -1
 | [],_=>rfl
 | x::l,ha=>by
   simp only[qbF,qar,qbA]at ha;rw[idxI,oH (by simp[ha.1]),zfU p l ha.2];rfl
theorem zgu{α:Type}(p:α->Bool):∀(l:List α),idxI p l= -1\/∃k:Nat,∃h:k<l.length,idxI p l=k/\p l[k]=true
 | []=>.inl rfl
 | x::l=>by
   unfold idxI;by_cases hx:p x=true
   ·rw[oG hx];exact .inr ⟨0,oC,rfl,by simpa using hx⟩
   ·rw[oH hx];rcases zgu p l with h|⟨k,hk,h,hp⟩
    ·rw[h];exact .inl rfl
    ·rw[h,oH oA];exact .inr ⟨k+1,by simpa using hk,oA,by simpa using hp⟩
abbrev zav (l:List Decl):T:=.sl 3 (l.map zag)
abbrev zbK (l:List Nod):T:=.sl 8 (l.map nodT)
def za3(p:Prog):List T:=[.sl 2 (p.enums.map enT),zbK p.nodes]
structure zyO (n:Nod):Prop where
 ins:n.ins.length≤100000000
 outs:n.outs.length≤100000000
 locals:n.locals.length≤100000000
abbrev nC(d:Nod):List T:=[.s d.name,zav d.ins,zav d.outs,zav d.locals,.sl 7 (d.eqs.map equT),.sl 1 (d.autos.map zai),.sl 6 (d.assume.map exT),.sl 6 (d.ensure.map exT)]
def nodC(d:Nod):List T:=[.s d.name,zav d.ins,zav d.outs,zav d.locals,.sl 7 (d.eqs.map equT),.sl 1 (d.autos.map zai),.sl 6 (d.assume.map exT),.sl 6 (d.ensure.map exT)]
def zfL(d:Decl):List T:=[.s d.name,T.n d.ty,.sl 3 (d.clock.map onT)]
theorem zor{l:List Nod}{k:Nat}(h:k<l.length):(l.map nodT)[k]?=some (.ag (nodC l[k])):=zaL nodT h
theorem zd0{l:List Decl}{k:Nat}(h:k<l.length):(l.map zag)[k]?=some (.ag (zfL l[k])):=zaL zag h
end Go.Proofs.YtdicfgideclbdaaGreatDoor
