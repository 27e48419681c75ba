import Derived.Test.YtpnnpgbaiobbjaaGreatDoorAk21
import Derived.Test.YtpnnpgbaiobbjaaGreatDoorAk27
import Derived.Test.YtpnnpgbaiobbjaaGreatDoorAk28
set_option linter.all false
namespace Go.Proofs.YtpnnpgbaiobbjaaGreatDoor
open Go Go.TL
attribute [local irreducible] TR TO Then zao RetK Sound zab Kf GG zaZ
abbrev KS.s (x:KS)(a:List Str)(L:List Decl):KS:={ x with a:=a,L:=L }
structure Bd where
 tos:List (Ex×Ex)
 hows:List (Ex×Ex)
 locals:List Decl
 eqs:List Equ
def untF(t:I64)(s:List Str×Bd)(x:Tran):List Str×Bd:=
 (ins s.1 (zaQ s.1 zeb),⟨s.2.tos++[(vrE (zaQ s.1 zeb),cnE t x.to)],s.2.hows++[(vrE (zaQ s.1 zeb),cnE bT (rstE x))],s.2.locals++[⟨zaQ s.1 zeb,bT,[]⟩],s.2.eqs++[⟨[zaQ s.1 zeb],x.cond⟩]⟩)
def insF(rd:List Str)(defs:List Decl)(o:List Decl)(d:Decl):List Decl:=if(defs.any fun x=>decide (x.name=d.name))=false/\d.name∈rd then o++[⟨d.name,d.ty,[]⟩] else o
def zcB(x:KS)(i:Nat)(s:Sta)(vars:List Decl):List Str×Nod:=
 let b:=frF x.a zbM
 let nx:=frF b.1 zbo
 let bk:=frF nx.1 zcd
 let u:=s.unt.foldl (untF x.t) (bk.1,⟨[],[],s.locals,s.eqs⟩)
 (u.1,⟨b.2,vars.foldl (insF (zbF 100000000 s) x.defs) [],x.defs++[⟨nx.2,x.t,[]⟩,⟨bk.2,bT,[]⟩],u.2.locals,u.2.eqs++[⟨[nx.2],zdn u.2.tos (cnE x.t (toI i))⟩,⟨[bk.2],zdn u.2.hows (cnE bT z64)⟩],s.autos,[],[]⟩)
def prtS(o:OnC)(s:Lc)(l:List Decl):Lc×List Str:=mapS (fun s (d:Decl)=>locF ziN d.ty [o] s) s l
def zgX(x:KS)(i:Nat)(s:Lc):Lc×List Str:=
 let p:=prtS (onL x x.now i) s x.defs
 let nx:=locF zbo x.t [onL x x.now i] p.1
 let bk:=locF zcd bT [onL x x.now i] nx.1
 (bk.1,p.2++[nx.2,bk.2])
def zdN(x:KS)(i:Nat)(s:Sta)(vars:List Decl):KS:=
 let b:=zcB x i s vars
 let p:=zgX x i (b.1,x.L)
 { x with a:=p.1.1,L:=p.1.2,bodies:=x.bodies++[b.2],parts:=x.parts++[p.2] }
theorem zsQ{rd:List Str}{defs o:List Decl}{d:Decl}(h1:d.name∈rd)(h2:(defs.any fun x=>decide (x.name=d.name))=false):insF rd defs o d=o++[⟨d.name,d.ty,[]⟩]:=if_pos ⟨h2,h1⟩
theorem zsO{rd:List Str}{defs o:List Decl}{d:Decl}(h1:d.name ∉ rd):insF rd defs o d=o:=if_neg fun h=>h1 h.2
theorem zsP{rd:List Str}{defs o:List Decl}{d:Decl}(h2:(defs.any fun x=>decide (x.name=d.name))=true):insF rd defs o d=o:=if_neg fun h=>by rw[h2]at h;cases h.1
theorem zg8(rd:List Str)(defs:List Decl):∀(l o:List Decl),(l.foldl (insF rd defs) o).length≤o.length+l.length
 | [],o=>by simp
 | d::l,o=>by
   have h1:=zg8 rd defs l (insF rd defs o d)
   have h2:(insF rd defs o d).length≤o.length+1:=by unfold insF;split <;> simp
   simp only[qaU,qam]
   omega
abbrev bB (nm:Str)(I O L E:SV)(au:T):Blk:=.cells [.s nm,I,O,L,E,.t au,.t (.v (.slice none 0 0)),.t (.v (.slice none 0 0))]
abbrev bH (x:KS)(a:List Str)(nm:Str)(I O L E:List T)(au:T)(n1 n2 n3 n4 n5 n6:Nat):Heap:=(x.s a x.L).G++[bB nm (.sl 3 I 15) (.sl 3 O 16) (.sl 3 L 17) (.sl 7 E 18) au,.tail n1,.tail n2,.tail n3,.tail n4,.tail n5,.tail n6]
abbrev mdH (b:Nod)(n1 n2 n3 n4 n5 n6:Nat)(o:OnC):Heap:=[.cells [.t (.s b.name),.t (zac b.ins),.t (zac b.outs),.t (zac b.locals),.t (.sl 7 (b.eqs.map equT)),.t (.sl 1 (b.autos.map zae)),.t (.sl 6 (b.assume.map exT)),.t (.sl 6 (b.ensure.map exT))],.tail n1,.tail n2,.tail n3,.tail n4,.tail n5,.tail n6,.cells [.s o.name,.n o.t,.n o.tag]]
theorem zmZ(y:KS)(s:Lc)(h:Room s.1 1)(hL:s.2.length≤1000000000)(b:Nod)(n1 n2 n3 n4 n5 n6:Nat)(o:OnC)(j:Nat)(d:Decl):Sound Tryz.prog 188 [.i j,.t (zaa d),.ref 13 0,.ref 21 0] ((y.s s.1 s.2).G++mdH b n1 n2 n3 n4 n5 n6 o)
  (fun r H'=>r= .ret (.t (T.s (locF ziN d.ty [o] s).2))/\H'=(y.s (locF ziN d.ty [o] s).1.1 (locF ziN d.ty [o] s).1.2).G++mdH b n1 n2 n3 n4 n5 n6 o):=by
 have c1:=zbg s h y.es y.c y.Q y.k hL ziN (by decide) d.ty [o]
 have ho:[o].map onT=[.ag [.s o.name,T.n o.t,T.n o.tag]]:=rfl
 rw[ho]at c1
 generalize locF ziN d.ty [o] s=r at*
 unfold zaa
 refine so Tryz.func188 ?_
 repeat' (first|refine wkt ?_|(apply TO.zaE 13 c1;(iterate 3 exact rfl);exact zqb;(iterate 8 exact rfl))|refine wk ?_|fail)
 exact RetK.keep 22 rfl (Le.refl _) rfl rfl rfl rfl rfl ⟨rfl,rfl⟩
theorem zh9(o:OnC):∀(l:List Decl) (s:Lc) (n:Nat),Room s.1 (l.length+n)->Room (prtS o s l).1.1 n
 | [],s,n,h=>h.mono (by simp)
 | d::l,s,n,h=>zh9 o l _ n (Room.loc1 (s:=s) (t:=d.ty) (ck:=[o]) (h.mono (by simp only[qam];omega)) (by decide))
theorem zj9(o:OnC):∀(l:List Decl) (s:Lc),(prtS o s l).1.2.length=s.2.length+l.length
 | [],s=>rfl
 | d::l,s=>by
   have:=zj9 o l (locF ziN d.ty [o] s).1
   show(prtS o (locF ziN d.ty [o] s).1 l).1.2.length=_
   exact zwek
theorem zm1(y:KS)(s:Lc)(l:List Decl)(h:Room s.1 l.length)(hL:s.2.length+l.length≤1000000000)(b:Nod)(n1 n2 n3 n4 n5 n6:Nat)(o:OnC):Sound Tryz.prog 187 [.t (.sl 3 (l.map zaa)),.fn 188 [.ref 13 0,.ref 21 0]] ((y.s s.1 s.2).G++mdH b n1 n2 n3 n4 n5 n6 o)
  (fun r H'=>r= .ret (.sl 1 ((prtS o s l).2.map T.s) 22)/\H'=(y.s (prtS o s l).1.1 (prtS o s l).1.2).G++mdH b n1 n2 n3 n4 n5 n6 o++[.tail l.length]):=by
 have:=zhT (fun s:Lc=>(y.s s.1 s.2).G++mdH b n1 n2 n3 n4 n5 n6 o) 22 (fun _=>rfl) (fun _=>rfl) 188 [.ref 13 0,.ref 21 0] rfl (fun _ s (d:Decl)=>locF ziN d.ty [o] s) (fun i s=>Room s.1 (l.length-i)/\s.2.length≤1000000000-(l.length-i)) l (by omega)
  (fun i s d hx hi=>by
    have hlt:=(qab.1 hx).1
    exact zmZ y s (hi.1.mono (by omega)) (by omega) b n1 n2 n3 n4 n5 n6 o i d)
  (fun i s d hx hi=>by
    have hlt:=(qab.1 hx).1
    refine⟨Room.loc1 (s:=s) (t:=d.ty) (ck:=[o]) (hi.1.mono (by omega)) (by decide),?_⟩
    simp only[locF,qae,qam,qaD]
    omega)
  s ⟨h.mono (by omega),by omega⟩
 rw[zq5]at this
 exact this
structure zoF (x:KS) (s:Sta) (n j:Nat) (u:List Str×Bd):Prop where
 room:Room u.1 (n+4-j)
 tos:u.2.tos.length≤j
 hows:u.2.hows.length≤j
 loc:u.2.locals.length≤s.locals.length+j
 eqs:u.2.eqs.length≤s.eqs.length+j
theorem zpr{x:KS}{s:Sta}{n j:Nat}{u:List Str×Bd}(h:zoF x s n j u)(hj:j<4)(t:Tran):zoF x s n (j+1) (untF x.t u t):=by
 obtain⟨h1,h2,h3,h4,h5⟩:=h
 refine⟨Room.fr1 (h1.mono (by omega)) (by decide),?_,?_,?_,?_⟩
 all_goals
  simp only[untF,qae,qam,qaD]
  omega
theorem zgl{x:KS}{s:Sta}{n:Nat}{u:List Str×Bd}(h:zoF x s n 0 u)(hu:s.unt.length≤4):∀j,j≤s.unt.length->zoF x s n j ((s.unt.take j).foldl (untF x.t) u)
 | 0,_=>h
 | j+1,hj=>by
   rw[zau _ _ hj]
   exact zpr (zgl h hu j (by omega)) (by omega) _
set_option maxHeartbeats 16000000 in
theorem zl9 (x:KS) (i:Nat) (s:Sta) (vars:List Decl) (hi:i≤1000000) (hs:(staT s).w≤100000000) (hu:s.unt.length≤4) (hR:Room x.a (x.defs.length+20)) (hd:x.defs.length≤1000000) (hv:vars.length≤1000000) (hL:x.L.length≤100000000) (hbl:x.bodies.length≤1000000) (hpl:x.parts.length≤1000000):
  Sound Tryz.prog 119 [.ref 8 0,.i i,.t (staT s),.t (zac vars)] x.H (fun r H'=>r= .ret (.tup [])/\H'=(zdN x i s vars).H):=by
 have hws:=zdK s
 have e1:(zac s.locals).w=(T.sl 3 (s.locals.map zaa)).w:=rfl
 have hbL:=zai zaa 3 s.locals
 have hbE:=zai equT 7 s.eqs
 have hmv:(vars.map zaa).length=vars.length:=qaa _
 have hmd:(x.defs.map zaa).length=x.defs.length:=qaa _
 have hmu:(s.unt.map zah).length=s.unt.length:=qaa _
 have c1:=zbC x.a (hR.mono (by omega)) zbM (by decide)
 have hR1:Room (frF x.a zbM).1 (x.defs.length+19):=Room.fr1 (hR.mono (by omega)) (by decide)
 have cr:=zgI 100000000 s hs hs
 have hrl:=zia 100000000 s
 unfold zdN zcB
 dsimp only
 unfold frF at*
 dsimp only at*
 generalize zaQ x.a zbM=nm at*
 generalize ins x.a nm=a1 at*
 generalize hRD:zbF 100000000 s=RD at*
 rw[za8]at cr⊢
 refine so Tryz.func119 ?_
 repeat' (first|refine wkt ?_|refine zqy ?_|fail)
 apply TR.zuX 14 10 15 (H10:=(x.s a1 x.L).G) (H01:=x.G++[.cells [.s [],.t (.v (.slice none 0 0)),.t (.v (.slice none 0 0)),.t (.v (.slice none 0 0)),.t (.v (.slice none 0 0)),.t (.v (.slice none 0 0)),.t (.v (.slice none 0 0)),.t (.v (.slice none 0 0))]]) (H11:=(x.s a1 x.L).G++[.cells [.s [],.t (.v (.slice none 0 0)),.t (.v (.slice none 0 0)),.t (.v (.slice none 0 0)),.t (.v (.slice none 0 0)),.t (.v (.slice none 0 0)),.t (.v (.slice none 0 0)),.t (.v (.slice none 0 0))]]) (HF:=(x.s a1 x.L).G++[.cells [.s nm,.t (.v (.slice none 0 0)),.t (.v (.slice none 0 0)),.t (.v (.slice none 0 0)),.t (.v (.slice none 0 0)),.t (.sl 1 (s.autos.map zae)),.t (.v (.slice none 0 0)),.t (.v (.slice none 0 0))]]) [_,_,_,_,_,_,_,_,_,_,_,_,_,_,_,.any] hmix
 case hB=>(dsimp only[List.length];decide +kernel)
 case hp=>
  repeat' (first|exact trivial|exact⟨⟨rfl,rfl⟩,trivial⟩|exact qaf rfl rfl|refine qaf (fun env=>?_) ?_|refine qaf ?_ ?_|refine wma ?_|(apply TO.zaE 3 c1;(iterate 3 exact rfl);exact zqb;(iterate 8 exact rfl))|(apply TO.alloc zag;(iterate 3 exact rfl))|refine wmk ?_|intro env|fail)
  done
 case hc=>exact rfl
 case hE=>exact rfl
 repeat' (first|refine wkt ?_|refine wv cr ?_|refine zab.exit ?_|exact wkc|intro hc|refine wk2 ?_ ?_|fail)
 refine TR.zcA 3 14 1 rfl rfl rfl ?_
 obtain⟨F,hF⟩:∃F:List Decl->Decl->List Decl,F=insF RD x.defs:=⟨_,rfl⟩
 rw[<-hF]
 have hI:=fun k=>zg8 RD x.defs (vars.take k) []
 rw[<-hF]at hI
 have hRb:RD.length≤1000000000:=by omega
 refine TR.zal vars.length (fun _=>True) (fun j=>[(1,.i i),(4,.ref 13 0),(6,.cp [.s s.name,.sl 3 (s.locals.map zaa),.sl 7 (s.eqs.map equT),.sl 1 (s.autos.map zae),.sl 8 (s.unl.map zah),.sl 8 (s.unt.map zah)] 0),(8,.ref 14 0),(9,.t (.sl 1 (RD.map T.s))),(37,.t (zac vars)),(38,.i vars.length),(39,.i j)]) (fun j=>(x.s a1 x.L).G++[bB nm (.sl 3 (((vars.take j).foldl F []).map zaa) 15) (.t (.v (.slice none 0 0))) (.t (.v (.slice none 0 0))) (.t (.v (.slice none 0 0))) (.sl 1 (s.autos.map zae)),.tail (((vars.take j).foldl F []).map zaa).length]) trivial (fun j hlt _=>?_) (fun _=>?_) ⟨rfl,rfl,rfl,rfl,rfl,rfl,by rw[<-hmv];rfl,rfl,trivial⟩ rfl
 ·have hx:(vars.map zaa)[j]?=some (.ag [.s vars[j].name,T.n vars[j].ty,.sl 3 (vars[j].clock.map onT)]):=zar zaa hlt
  have hn:=zau F [] hlt
  have hIj:=hI j
  simp only[qaV,qaD]at hIj
  generalize (vars.take j).foldl F []=I at*
  have hmI:(I.map zaa).length=I.length:=qaa _
  have c2:=zb6 RD hRb vars[j].name
  have c3:=zfk 181 [.cp [.s vars[j].name,T.n vars[j].ty,.sl 3 (vars[j].clock.map onT)] 0] rfl (fun y=>decide (y.name=vars[j].name)) x.defs (by omega) fun y=>zkE vars[j] y
  have hy1:vars[j].name∈RD->(x.defs.any fun y=>decide (y.name=vars[j].name))=false->F I vars[j]=I++[⟨vars[j].name,vars[j].ty,[]⟩]:=fun h1 h2=>by rw[hF];exact zsQ h1 h2
  have hy2:vars[j].name ∉ RD->F I vars[j]=I:=fun h1=>by rw[hF];exact zsO h1
  have hy3:(x.defs.any fun y=>decide (y.name=vars[j].name))=true->F I vars[j]=I:=fun h2=>by rw[hF];exact zsP h2
  clear hI hF
  generalize vars[j]=d at*
  by_cases h1:d.name∈RD
  ·rw[decide_eq_true h1]at c2
   cases h2:x.defs.any fun y=>decide (y.name=d.name) with
   | true=>
     rw[h2]at c3
     rw[hy3 h2]at hn
     repeat' (first|refine wkt ?_|refine zqp ?_|refine wv c2 ?_|refine wv c3 ?_|refine zab.exit ?_|exact wkc|intro hc|refine wk2 ?_ ?_|refine wk ?_|fail)
     exact zab.zat hlt trivial (by(try dsimp only);exact⟨rfl,rfl,rfl,rfl,rfl,rfl,rfl,rfl,trivial⟩) (by(try dsimp only);rw[hn])
   | false=>
     rw[h2]at c3
     rw[hy1 h1 h2]at hn
     repeat' (first|refine wkt ?_|refine zqp ?_|refine wv c2 ?_|refine zab.exit ?_|exact wkc|intro hc|refine wk2 ?_ ?_|fail)
     repeat' (first|(apply TO.want;exact rfl)|refine wv c3 ?_|(apply TO.znI zag;(iterate 7 exact rfl);refine(?_:Le _ (.t (T.ag [_,_,.sl 3 []])));focus ((repeat' (first|exact trivial|exact Le.refl _|refine qaf ?_ ?_|exact Le.any _|exact Le.nil _|exact Le.own _ _ _|refine Le.tree rfl ?_|exact TLe.refl _|exact TLe.nil _|refine TLe.ags ?_|fail));done))|refine zqe ?_|exact wkc|intro hc|refine TR.region ?_|refine zqi ?_|refine zqh ?_|refine zqj ?_|refine zqg ?_|fail)
     repeat' (first|refine wkt ?_|refine zab.exit ?_|exact wkc|intro hc|refine wk2 ?_ ?_|refine wk ?_|fail)
     exact zab.zat hlt trivial (by(try dsimp only);exact⟨rfl,rfl,rfl,rfl,rfl,rfl,rfl,rfl,trivial⟩) (by(try dsimp only);rw[hn,zfq,qae];rfl)
  ·rw[decide_eq_false h1]at c2
   rw[hy2 h1]at hn
   repeat' (first|refine wkt ?_|refine zqp ?_|refine wv c2 ?_|refine zab.exit ?_|exact wkc|intro hc|refine wk2 ?_ ?_|refine wk ?_|fail)
   exact zab.zat hlt trivial (by(try dsimp only);exact⟨rfl,rfl,rfl,rfl,rfl,rfl,rfl,rfl,trivial⟩) (by(try dsimp only);rw[hn])
 rw[qah]
 have hIl:=hI vars.length
 rw[qah]at hIl
 simp only[qaD]at hIl
 clear hI
 generalize vars.foldl F []=I at*
 have hmI:(I.map zaa).length=I.length:=qaa _
 have c2:=zbC a1 (hR1.mono (by omega)) zbo (by decide)
 have hR2:Room (frF a1 zbo).1 (x.defs.length+18):=Room.fr1 (hR1.mono (by omega)) (by decide)
 unfold frF at hR2
 dsimp only at hR2
 generalize zaQ a1 zbo=nn at*
 generalize ins a1 nn=a2 at*
 have c3:=zbC a2 (hR2.mono (by omega)) zcd (by decide)
 have hR3:Room (frF a2 zcd).1 (x.defs.length+17):=Room.fr1 (hR2.mono (by omega)) (by decide)
 unfold frF at hR3
 dsimp only at hR3
 generalize zaQ a2 zcd=nb at*
 generalize ins a2 nb=a3 at*
 have cd:=zee (x.defs.map zaa) (by omega)
 have hLm:(s.locals.map zaa).length=s.locals.length:=qaa _
 have hEm:(s.eqs.map equT).length=s.eqs.length:=qaa _
 have cl:=zee (s.locals.map zaa) (by omega)
 have ce:=zgz (s.eqs.map equT) (by omega)
 repeat' (first|refine wkt ?_|refine zab.exit ?_|exact wkc|intro hc|refine wk2 ?_ ?_|fail)
 apply TR.zaw 0 (g:=True) [(_,0,2),(_,0,0),(_,0,0),(_,0,0),(_,0,0),(_,0,0),(_,0,0),(_,0,0),(_,0,0),(_,0,0),(_,1,0),(_,0,2),(_,0,1),(_,0,1),(_,0,1),(_,0,1),(_,0,1),(_,0,1),(_,0,1),(_,0,1),(_,0,1),(_,1,0),(_,2,2),(_,2,2)] [(x.s a1 x.L).G++[bB nm (.sl 3 (I.map zaa) 15) (.t (.v (.slice none 0 0))) (.t (.v (.slice none 0 0))) (.t (.v (.slice none 0 0))) (.sl 1 (s.autos.map zae)),.tail (I.map zaa).length],(x.s a2 x.L).G++[bB nm (.sl 3 (I.map zaa) 15) (.t (.v (.slice none 0 0))) (.t (.v (.slice none 0 0))) (.t (.v (.slice none 0 0))) (.sl 1 (s.autos.map zae)),.tail (I.map zaa).length],(x.s a3 x.L).G++[bB nm (.sl 3 (I.map zaa) 15) (.t (.v (.slice none 0 0))) (.t (.v (.slice none 0 0))) (.t (.v (.slice none 0 0))) (.sl 1 (s.autos.map zae)),.tail (I.map zaa).length]] hmix
 case hB=>exact zqv
 case h0=>exact rfl
 case hp=>
  repeat' (first|exact trivial|exact⟨⟨rfl,rfl⟩,trivial⟩|exact qaf rfl rfl|refine qaf (fun env=>?_) ?_|refine qaf ?_ ?_|refine wma ?_|(apply TO.zaE 3 c2;(iterate 3 exact rfl);exact zqb;(iterate 8 exact rfl))|(apply TO.zaE 3 c3;(iterate 3 exact rfl);exact zqb;(iterate 8 exact rfl))|refine wmk ?_|fail)
  done
 case hc=>exact rfl
 case hF=>exact rfl
 case hE=>exact rfl
 intro _
 obtain⟨OT,hOT⟩:∃OT:List T,OT=x.defs.map zaa++[T.ag [.s nn,T.n x.t,.sl 3 []],T.ag [.s nb,.v (.int .i64 1),.sl 3 []]]:=⟨_,rfl⟩
 repeat' (first|refine wkt ?_|fail)
 apply TR.zaw 0 (g:=True) [(_,0,0),(_,0,0),(_,0,0),(_,0,0),(_,1,0),(_,0,1),(_,0,1),(_,0,1),(_,0,1),(_,0,1),(_,0,1),(_,0,1),(_,0,1),(_,0,1),(_,1,0),(_,2,2),(.any,1,0)] [(x.s a3 x.L).G++[bB nm (.sl 3 (I.map zaa) 15) (.t (.v (.slice none 0 0))) (.t (.v (.slice none 0 0))) (.t (.v (.slice none 0 0))) (.sl 1 (s.autos.map zae)),.tail (I.map zaa).length],(x.s a3 x.L).G++[bB nm (.sl 3 (I.map zaa) 15) (.t (.v (.slice none 0 0))) (.t (.v (.slice none 0 0))) (.t (.v (.slice none 0 0))) (.sl 1 (s.autos.map zae)),.tail (I.map zaa).length,.tail (x.defs.map zaa).length],(x.s a3 x.L).G++[bB nm (.sl 3 (I.map zaa) 15) (.t (.v (.slice none 0 0))) (.t (.v (.slice none 0 0))) (.t (.v (.slice none 0 0))) (.sl 1 (s.autos.map zae)),.tail (I.map zaa).length,.tail ((x.defs.map zaa).length+2)],(x.s a3 x.L).G++[bB nm (.sl 3 (I.map zaa) 15) (.sl 3 (x.defs.map zaa++[T.ag [.s nn,T.n x.t,.sl 3 []],T.ag [.s nb,.v (.int .i64 1),.sl 3 []]]) 16) (.t (.v (.slice none 0 0))) (.t (.v (.slice none 0 0))) (.sl 1 (s.autos.map zae)),.tail (I.map zaa).length,.tail ((x.defs.map zaa).length+2)]] hmix
 case hB=>exact zqv
 case h0=>exact rfl
 case hp=>
  repeat' (first|exact trivial|exact⟨⟨rfl,rfl⟩,trivial⟩|exact qaf rfl rfl|refine qaf (fun env=>?_) ?_|refine qaf ?_ ?_|(apply TO.znI zag;(iterate 7 exact rfl);refine(?_:Le _ (.t (T.ag [_,_,.sl 3 []])));focus (exact zqb;done))|refine wma ?_|(apply TO.zdv cd;(iterate 3 exact rfl);exact zqb;exact rfl)|(apply TO.zbb zag;(iterate 13 exact rfl);exact zqn;exact rfl)|refine wmk ?_|fail)
  done
 case hc=>exact rfl
 case hF=>exact rfl
 case hE=>exact rfl
 intro _
 rw[<-hOT]
 repeat' (first|refine wkt ?_|(apply TO.zdv cl;(iterate 3 exact rfl);exact zqb;exact rfl)|(apply TO.zdv ce;(iterate 3 exact rfl);exact zqb;exact rfl)|refine wk ?_|fail)
 refine TR.tail 12 14 rfl ?_
 refine TR.tail 12 15 rfl ?_
 have hU0:zoF x s (x.defs.length+13) 0 (a3,⟨[],[],s.locals,s.eqs⟩):=⟨hR3.mono (by omega),by simp,by simp,by simp,by simp⟩
 have hUj:=zgl hU0 hu
 obtain⟨U,hU⟩:∃U:Nat->List Str×Bd,U=fun j=>(s.unt.take j).foldl (untF x.t) (a3,⟨[],[],s.locals,s.eqs⟩):=⟨_,rfl⟩
 have hUa:U s.unt.length=s.unt.foldl (untF x.t) (a3,⟨[],[],s.locals,s.eqs⟩):=by rw[hU];simp only[qah]
 rw[<-hUa]
 refine TR.zal s.unt.length (fun _=>True) (fun j=>[(1,.i i),(4,.ref 13 0),(6,.cp [.s s.name,.sl 3 (s.locals.map zaa),.sl 7 (s.eqs.map equT),.sl 1 (s.autos.map zae),.sl 8 (s.unl.map zah),.sl 8 (s.unt.map zah)] 0),(8,.ref 14 0),(12,.s nn),(13,.s nb),(14,.sl 12 ((U j).2.tos.map chT) 19),(15,.sl 12 ((U j).2.hows.map chT) 20),(114,.t (.sl 8 (s.unt.map zah))),(115,.i s.unt.length),(116,.i j)]) (fun j=>bH x (U j).1 nm (I.map zaa) OT ((U j).2.locals.map zaa) ((U j).2.eqs.map equT) (.sl 1 (s.autos.map zae)) (I.map zaa).length ((x.defs.map zaa).length+2) ((U j).2.locals.map zaa).length ((U j).2.eqs.map equT).length ((U j).2.tos.map chT).length ((U j).2.hows.map chT).length) trivial (fun j hlt _=>?_) (fun _=>?_) ⟨rfl,rfl,rfl,rfl,rfl,rfl,by rw[hU];rfl,by rw[hU];rfl,rfl,by rw[<-hmu];rfl,rfl,trivial⟩ (by rw[hU];rfl)
 ·have hx:(s.unt.map zah)[j]?=some (.ag [T.n s.unt[j].cond.kind,T.n s.unt[j].cond.op,T.n s.unt[j].cond.t,T.n s.unt[j].cond.v,.s s.unt[j].cond.name,.sl 6 (s.unt[j].cond.args.map exT),T.n s.unt[j].to,.b s.unt[j].resume]):=zar zah hlt
  have hn:U (j+1)=untF x.t (U j) s.unt[j]:=by rw[hU];exact zau _ _ hlt
  have hok:=hUj j (by omega)
  rw[show(s.unt.take j).foldl (untF x.t) (a3,⟨[],[],s.locals,s.eqs⟩)=U j by rw[hU]]at hok
  generalize U j=u at*
  obtain⟨a5,ts1,hs1,L,E⟩:=u
  obtain⟨k1,k2,k3,k4,k5⟩:=hok
  dsimp only at k1 k2 k3 k4 k5
  unfold untF at hn
  dsimp only at hn
  have c4:=zbC a5 (k1.mono (by omega)) zeb (by decide)
  generalize zaQ a5 zeb=cn at*
  generalize ins a5 cn=a6 at*
  have m1:(ts1.map chT).length=ts1.length:=qaa _
  have m2:(hs1.map chT).length=hs1.length:=qaa _
  have m3:(L.map zaa).length=L.length:=qaa _
  have m4:(E.map equT).length=E.length:=qaa _
  have d1:=zbI cn
  have d2:=zaT x.t s.unt[j].to
  have d3:=zeZ s.unt[j]
  have d4:=zaT bT (rstE s.unt[j])
  clear hU hUj hUa hU0 cd cl ce c1 c2 c3 cr
  generalize s.unt[j]=t at*
  have htt:zah t= .ag [T.n t.cond.kind,T.n t.cond.op,T.n t.cond.t,T.n t.cond.v,.s t.cond.name,.sl 6 (t.cond.args.map exT),T.n t.to,.b t.resume]:=rfl
  rw[htt]at d3
  repeat' (first|refine wkt ?_|refine zqp ?_|refine zab.exit ?_|exact wkc|intro hc|refine wk2 ?_ ?_|fail)
  repeat' (first|(apply TO.zaE 3 c4;(iterate 3 exact rfl);exact zqb;(iterate 8 exact rfl))|(apply TO.znI zag;(iterate 7 exact rfl);refine(?_:Le _ (.t (T.ag [_,_,.sl 3 []])));focus ((repeat' (first|exact trivial|exact Le.refl _|refine qaf ?_ ?_|exact Le.any _|exact Le.nil _|exact Le.own _ _ _|refine Le.tree rfl ?_|exact TLe.refl _|exact TLe.nil _|refine TLe.ags ?_|fail));done))|refine zqe ?_|refine TR.region ?_|refine zqi ?_|refine zqh ?_|refine zqj ?_|refine zqg ?_|fail)
  apply TR.zhc [14] 0 (g:=True) [(_,0,0),(_,0,0),(_,0,0),(_,0,0),(_,0,0),(_,0,0),(_,0,0),(_,0,0),(_,0,0),(_,0,0),(_,0,0),(_,0,0),(_,1,0),(_,1,1)] [bH x a6 nm (I.map zaa) OT (L.map zaa++[T.ag [.s cn,.v (.int .i64 1),.sl 3 []]]) (E.map equT++[T.ag (.sl 1 [T.s cn]::exC t.cond)]) (.sl 1 (s.autos.map zae)) (I.map zaa).length ((x.defs.map zaa).length+2) ((L.map zaa).length+1) ((E.map equT).length+1) (ts1.map chT).length (hs1.map chT).length,bH x a6 nm (I.map zaa) OT (L.map zaa++[T.ag [.s cn,.v (.int .i64 1),.sl 3 []]]) (E.map equT++[T.ag (.sl 1 [T.s cn]::exC t.cond)]) (.sl 1 (s.autos.map zae)) (I.map zaa).length ((x.defs.map zaa).length+2) ((L.map zaa).length+1) ((E.map equT).length+1) ((ts1.map chT).length+1) (hs1.map chT).length] hmix
  case hB=>exact zqv
  case hw=>exact rfl
  case h0=>exact rfl
  case hp=>
   repeat' (first|exact trivial|exact⟨⟨rfl,rfl⟩,trivial⟩|exact qaf rfl rfl|refine qaf (fun env=>?_) ?_|refine qaf ?_ ?_|refine wma ?_|refine wmv d1 ?_|refine wmv d2 ?_|(apply TO.zbb zag;(iterate 13 exact rfl);exact zqn;exact rfl)|refine wmk ?_|fail)
   done
  case hc=>exact rfl
  case hF=>exact rfl
  case hE=>exact rfl
  intro _
  repeat' (first|refine wkt ?_|fail)
  apply TR.zhc [15] 0 (g:=True) [(_,0,0),(_,0,0),(_,0,0),(_,0,0),(_,0,0),(_,0,0),(_,0,0),(_,0,0),(_,1,0),(_,1,1)] [bH x a6 nm (I.map zaa) OT (L.map zaa++[T.ag [.s cn,.v (.int .i64 1),.sl 3 []]]) (E.map equT++[T.ag (.sl 1 [T.s cn]::exC t.cond)]) (.sl 1 (s.autos.map zae)) (I.map zaa).length ((x.defs.map zaa).length+2) ((L.map zaa).length+1) ((E.map equT).length+1) ((ts1.map chT).length+1) (hs1.map chT).length,bH x a6 nm (I.map zaa) OT (L.map zaa++[T.ag [.s cn,.v (.int .i64 1),.sl 3 []]]) (E.map equT++[T.ag (.sl 1 [T.s cn]::exC t.cond)]) (.sl 1 (s.autos.map zae)) (I.map zaa).length ((x.defs.map zaa).length+2) ((L.map zaa).length+1) ((E.map equT).length+1) ((ts1.map chT).length+1) ((hs1.map chT).length+1)] hmix
  case hB=>exact zqv
  case hw=>exact rfl
  case h0=>exact rfl
  case hp=>
   repeat' (first|exact trivial|exact⟨⟨rfl,rfl⟩,trivial⟩|exact qaf rfl rfl|refine qaf (fun env=>?_) ?_|refine qaf ?_ ?_|refine wma ?_|refine wmv d1 ?_|refine wmv d3 ?_|refine wmv d4 ?_|(apply TO.zbb zag;(iterate 13 exact rfl);exact zqn;exact rfl)|refine wmk ?_|fail)
   done
  case hc=>exact rfl
  case hF=>exact rfl
  case hE=>exact rfl
  intro _
  repeat' (first|refine wkt ?_|refine zab.exit ?_|exact wkc|intro hc|refine wk2 ?_ ?_|refine wk ?_|fail)
  exact zab.zat hlt trivial (by(try dsimp only);rw[hn];dsimp only;rw[qal,qal];exact⟨rfl,rfl,rfl,rfl,rfl,rfl,rfl,rfl,rfl,rfl,rfl,trivial⟩) (by(try dsimp only);rw[hn];dsimp only;simp only[qal,qae];rfl)
 have hok:=hUj s.unt.length (qag _)
 rw[qah,<-hUa]at hok
 clear hUj hUa hU0 hU cd cl ce c1 c2 c3 cr
 generalize U s.unt.length=u at*
 obtain⟨a4,ts1,hs1,L,E⟩:=u
 obtain⟨k1,k2,k3,k4,k5⟩:=hok
 dsimp only at*
 have m4:(E.map equT).length=E.length:=qaa _
 have d1:=zgC x.t i (by omega)
 have d2:=zcb ts1 (cnE x.t (toI i)) (by omega)
 have d3:=zaT bT z64
 have d4:=zcb hs1 (cnE bT z64) (by omega)
 generalize hN1:zdn ts1 (cnE x.t (toI i))=N1 at*
 generalize hN2:zdn hs1 (cnE bT z64)=N2 at*
 generalize cnE x.t (toI i)=e1' at*
 generalize cnE bT z64=e2' at*
 repeat' (first|refine wkt ?_|refine zab.exit ?_|exact wkc|intro hc|refine wk2 ?_ ?_|fail)
 apply TR.zaw 0 (g:=True) [(_,0,0),(_,0,0),(_,0,0),(_,0,0),(_,0,0),(_,0,0),(_,0,0),(_,0,0),(_,0,0),(_,0,0),(_,0,0),(_,0,0),(_,0,0),(_,0,0),(_,0,0),(_,0,0),(_,0,0),(_,0,0),(_,0,0),(_,0,0),(_,1,0),(_,1,1),(.any,1,0)] [bH x a4 nm (I.map zaa) OT (L.map zaa) (E.map equT) (.sl 1 (s.autos.map zae)) (I.map zaa).length ((x.defs.map zaa).length+2) (L.map zaa).length (E.map equT).length (ts1.map chT).length (hs1.map chT).length,bH x a4 nm (I.map zaa) OT (L.map zaa) (E.map equT) (.sl 1 (s.autos.map zae)) (I.map zaa).length ((x.defs.map zaa).length+2) (L.map zaa).length ((E.map equT).length+2) (ts1.map chT).length (hs1.map chT).length,bH x a4 nm (I.map zaa) OT (L.map zaa) (E.map equT++[T.ag (.sl 1 [T.s nn]::exC N1),T.ag (.sl 1 [T.s nb]::exC N2)]) (.sl 1 (s.autos.map zae)) (I.map zaa).length ((x.defs.map zaa).length+2) (L.map zaa).length ((E.map equT).length+2) (ts1.map chT).length (hs1.map chT).length] hmix
 case hB=>exact zqv
 case h0=>exact rfl
 case hp=>
  repeat' (first|exact trivial|exact⟨⟨rfl,rfl⟩,trivial⟩|exact qaf rfl rfl|refine qaf (fun env=>?_) ?_|refine qaf ?_ ?_|refine wma ?_|refine wmv d1 ?_|refine wmv d2 ?_|refine wmv d3 ?_|refine wmv d4 ?_|(apply TO.zbb zag;(iterate 13 exact rfl);exact zqn;exact rfl)|refine wmk ?_|fail)
  done
 case hc=>exact rfl
 case hF=>exact rfl
 case hE=>exact rfl
 intro _
 obtain⟨ET,hET⟩:∃ET:List T,ET=E.map equT++[T.ag (.sl 1 [T.s nn]::exC N1),T.ag (.sl 1 [T.s nb]::exC N2)]:=⟨_,rfl⟩
 rw[<-hET]
 obtain⟨b,hb⟩:∃b:Nod,b=⟨nm,I,x.defs++[⟨nn,x.t,[]⟩,⟨nb,bT,[]⟩],L,E++[⟨[nn],N1⟩,⟨[nb],N2⟩],s.autos,[],[]⟩:=⟨_,rfl⟩
 have hE2:ET=b.eqs.map equT:=by rw[hET,hb,qal];rfl
 have hO2:OT=b.outs.map zaa:=by rw[hOT,hb,qal];rfl
 have hNB:T.ag [.s nm,.sl 3 (I.map zaa),.sl 3 OT,.sl 3 (L.map zaa),.sl 7 ET,.sl 1 (s.autos.map zae),.sl 6 [],.sl 6 []]=nodT b:=by rw[hE2,hO2,hb];rfl
 have hMC:Blk.cells [.t (.s nm),.t (.sl 3 (I.map zaa)),.t (.sl 3 OT),.t (.sl 3 (L.map zaa)),.t (.sl 7 ET),.t (.sl 1 (s.autos.map zae)),.t (.sl 6 []),.t (.sl 6 [])]= .cells [.t (.s b.name),.t (zac b.ins),.t (zac b.outs),.t (zac b.locals),.t (.sl 7 (b.eqs.map equT)),.t (.sl 1 (b.autos.map zae)),.t (.sl 6 (b.assume.map exT)),.t (.sl 6 (b.ensure.map exT))]:=by rw[hE2,hO2,hb];rfl
 rw[<-hb]
 repeat' (first|refine wkt ?_|fail)
 refine TR.zfj 14 1 (Le.own _ _ _) rfl rfl rfl ?_
 refine TR.zfj 14 2 (Le.own _ _ _) rfl rfl rfl ?_
 refine TR.zfj 14 3 (Le.own _ _ _) rfl rfl rfl ?_
 refine TR.zfj 14 4 (Le.own _ _ _) rfl rfl rfl ?_
 refine TR.zfj 14 6 (v':=.t (.sl 6 [])) (Le.nil _) rfl rfl rfl ?_
 refine TR.zfj 14 7 (v':=.t (.sl 6 [])) (Le.nil _) rfl rfl rfl ?_
 apply TR.zaw 0 (g:=True) [(_,0,1),(_,0,0),(_,0,0),(_,0,0),(_,0,0),(_,0,0),(_,0,0),(_,1,0),(_,1,1),(_,1,1),(.any,1,0)] [(x.s a4 x.L).G++[.cells [.t (.s nm),.t (.sl 3 (I.map zaa)),.t (.sl 3 OT),.t (.sl 3 (L.map zaa)),.t (.sl 7 ET),.t (.sl 1 (s.autos.map zae)),.t (.sl 6 []),.t (.sl 6 [])],.tail (I.map zaa).length,.tail ((x.defs.map zaa).length+2),.tail (L.map zaa).length,.tail ((E.map equT).length+2),.tail (ts1.map chT).length,.tail (hs1.map chT).length],[setB a4,adB,axB,.tail x.es.length,exB x.es,ndB x.c (x.L.map zaa) x.Q,.tail (x.L.map zaa).length,.tail x.Q.length,kB x.k,.tail x.k.defs.length,.tail x.k.conds.length,.tail ((x.bodies.map nodT).length+1),.tail x.k.parts.length,kx,.cells [.t (.s nm),.t (.sl 3 (I.map zaa)),.t (.sl 3 OT),.t (.sl 3 (L.map zaa)),.t (.sl 7 ET),.t (.sl 1 (s.autos.map zae)),.t (.sl 6 []),.t (.sl 6 [])],.tail (I.map zaa).length,.tail ((x.defs.map zaa).length+2),.tail (L.map zaa).length,.tail ((E.map equT).length+2),.tail (ts1.map chT).length,.tail (hs1.map chT).length],[setB a4,adB,axB,.tail x.es.length,exB x.es,ndB x.c (x.L.map zaa) x.Q,.tail (x.L.map zaa).length,.tail x.Q.length,kB { x.k with bodies:=x.bodies.map nodT++[T.ag [.s nm,.sl 3 (I.map zaa),.sl 3 OT,.sl 3 (L.map zaa),.sl 7 ET,.sl 1 (s.autos.map zae),.sl 6 [],.sl 6 []]] },.tail x.k.defs.length,.tail x.k.conds.length,.tail ((x.bodies.map nodT).length+1),.tail x.k.parts.length,kx,.cells [.t (.s nm),.t (.sl 3 (I.map zaa)),.t (.sl 3 OT),.t (.sl 3 (L.map zaa)),.t (.sl 7 ET),.t (.sl 1 (s.autos.map zae)),.t (.sl 6 []),.t (.sl 6 [])],.tail (I.map zaa).length,.tail ((x.defs.map zaa).length+2),.tail (L.map zaa).length,.tail ((E.map equT).length+2),.tail (ts1.map chT).length,.tail (hs1.map chT).length]] hmix
 case hB=>exact zqv
 case h0=>exact rfl
 case hp=>
  repeat' (first|exact trivial|exact⟨⟨rfl,rfl⟩,trivial⟩|exact qaf rfl rfl|refine qaf (fun env=>?_) ?_|refine qaf ?_ ?_|refine wma ?_|(apply TO.zbb zag;(iterate 13 exact rfl);exact zqn;exact rfl)|refine wmk ?_|fail)
  done
 case hc=>exact rfl
 case hF=>exact rfl
 case hE=>exact rfl
 intro _
 rw[hMC,hNB]
 have hb1:x.bodies.map nodT++[nodT b]=(x.bodies++[b]).map nodT:=by rw[qal];rfl
 have hb2:(x.bodies.map nodT).length+1=((x.bodies++[b]).map nodT).length:=by rw[<-hb1,qae];rfl
 rw[hb1,hb2]
 have d5:=zdD a4 x.es x.c (x.L.map zaa) x.Q ({ x with bodies:=x.bodies++[b] }:KS).k x.now i
 repeat' (first|refine wkt ?_|fail)
 apply TR.zaw 0 (g:=True) [(_,0,1),(_,0,1),(_,0,1),(_,0,1),(_,0,1),(_,0,1),(_,0,1),(_,1,0),(.any,1,0)] [(({ x with bodies:=x.bodies++[b] }:KS).s a4 x.L).G++[.cells [.t (.s b.name),.t (zac b.ins),.t (zac b.outs),.t (zac b.locals),.t (.sl 7 (b.eqs.map equT)),.t (.sl 1 (b.autos.map zae)),.t (.sl 6 (b.assume.map exT)),.t (.sl 6 (b.ensure.map exT))],.tail (I.map zaa).length,.tail ((x.defs.map zaa).length+2),.tail (L.map zaa).length,.tail ((E.map equT).length+2),.tail (ts1.map chT).length,.tail (hs1.map chT).length],(({ x with bodies:=x.bodies++[b] }:KS).s a4 x.L).G++[.cells [.t (.s b.name),.t (zac b.ins),.t (zac b.outs),.t (zac b.locals),.t (.sl 7 (b.eqs.map equT)),.t (.sl 1 (b.autos.map zae)),.t (.sl 6 (b.assume.map exT)),.t (.sl 6 (b.ensure.map exT))],.tail (I.map zaa).length,.tail ((x.defs.map zaa).length+2),.tail (L.map zaa).length,.tail ((E.map equT).length+2),.tail (ts1.map chT).length,.tail (hs1.map chT).length,.cells [.s [],.i 0,.i 0]],(({ x with bodies:=x.bodies++[b] }:KS).s a4 x.L).G++[.cells [.t (.s b.name),.t (zac b.ins),.t (zac b.outs),.t (zac b.locals),.t (.sl 7 (b.eqs.map equT)),.t (.sl 1 (b.autos.map zae)),.t (.sl 6 (b.assume.map exT)),.t (.sl 6 (b.ensure.map exT))],.tail (I.map zaa).length,.tail ((x.defs.map zaa).length+2),.tail (L.map zaa).length,.tail ((E.map equT).length+2),.tail (ts1.map chT).length,.tail (hs1.map chT).length,.cells [.s x.now,.n x.t,.i i]]] hmix
 case hB=>exact zqv
 case h0=>exact rfl
 case hp=>
  repeat' (first|exact trivial|exact⟨⟨rfl,rfl⟩,trivial⟩|exact qaf rfl rfl|refine qaf (fun env=>?_) ?_|refine qaf ?_ ?_|refine wma ?_|(apply TO.zaE 13 d5;(iterate 3 exact rfl);exact zqb;(iterate 8 exact rfl))|(apply TO.alloc zag;(iterate 3 exact rfl))|refine wmk ?_|fail)
  done
 case hc=>exact rfl
 case hF=>exact rfl
 case hE=>exact rfl
 intro _
 have ho:=zpe x x.now i (by omega)
 have cp:=zm1 ({ x with bodies:=x.bodies++[b] }:KS) (a4,x.L) x.defs (k1.mono (by omega)) (by dsimp only;omega) b (I.map zaa).length ((x.defs.map zaa).length+2) (L.map zaa).length ((E.map equT).length+2) (ts1.map chT).length (hs1.map chT).length (onL x x.now i)
 have hRp:Room (prtS (onL x x.now i) (a4,x.L) x.defs).1.1 8:=zh9 (onL x x.now i) x.defs (a4,x.L) 8 (k1.mono (by omega))
 have hLp:=zj9 (onL x x.now i) x.defs (a4,x.L)
 have hPp:(prtS (onL x x.now i) (a4,x.L) x.defs).2.length=x.defs.length:=by unfold prtS;exact zcq _ _ _
 have hmd:mdH b (I.map zaa).length ((x.defs.map zaa).length+2) (L.map zaa).length ((E.map equT).length+2) (ts1.map chT).length (hs1.map chT).length (onL x x.now i)=[.cells [.t (.s b.name),.t (zac b.ins),.t (zac b.outs),.t (zac b.locals),.t (.sl 7 (b.eqs.map equT)),.t (.sl 1 (b.autos.map zae)),.t (.sl 6 (b.assume.map exT)),.t (.sl 6 (b.ensure.map exT))],.tail (I.map zaa).length,.tail ((x.defs.map zaa).length+2),.tail (L.map zaa).length,.tail ((E.map equT).length+2),.tail (ts1.map chT).length,.tail (hs1.map chT).length,.cells [.s x.now,.n x.t,.i i]]:=by
  have h9:SV.n (toI i)=SV.i (i:Int):=by rw[show SV.n (toI i)=SV.i (toI i).1 from rfl,zkm (by omega)]
  show[Blk.cells [.t (.s b.name),.t (zac b.ins),.t (zac b.outs),.t (zac b.locals),.t (.sl 7 (b.eqs.map equT)),.t (.sl 1 (b.autos.map zae)),.t (.sl 6 (b.assume.map exT)),.t (.sl 6 (b.ensure.map exT))],.tail (I.map zaa).length,.tail ((x.defs.map zaa).length+2),.tail (L.map zaa).length,.tail ((E.map equT).length+2),.tail (ts1.map chT).length,.tail (hs1.map chT).length,.cells [.s x.now,.n x.t,.n (toI i)]]=_
  rw[h9]
 rw[hmd]at cp
 clear hmd
 rcases hpe:prtS (onL x x.now i) (a4,x.L) x.defs with ⟨⟨a7,L7⟩,ps⟩
 rw[hpe]at cp hRp hLp hPp
 dsimp only at cp hRp hLp hPp
 have hpm:x.defs.length=(ps.map T.s).length:=by rw[qaa,hPp]
 rw[hpm]at cp
 have c8:=zbg (a7,L7) (hRp.mono (by decide)) x.es x.c x.Q ({ x with bodies:=x.bodies++[b] }:KS).k (by dsimp only;omega) zbo (by decide) x.t [onL x x.now i]
 have hR8:Room (locF zbo x.t [onL x x.now i] (a7,L7)).1.1 7:=Room.loc1 (s:=(a7,L7)) hRp (by decide)
 have hL8:(locF zbo x.t [onL x x.now i] (a7,L7)).1.2.length=L7.length+1:=by simp[locF]
 rcases hn8:locF zbo x.t [onL x x.now i] (a7,L7)with ⟨⟨a8,L8⟩,n8⟩
 rw[hn8]at c8 hR8 hL8
 dsimp only at c8 hR8 hL8
 have c9:=zbg (a8,L8) (hR8.mono (by decide)) x.es x.c x.Q ({ x with bodies:=x.bodies++[b] }:KS).k (by dsimp only;omega) zcd (by decide) bT [onL x x.now i]
 rcases hn9:locF zcd bT [onL x x.now i] (a8,L8)with ⟨⟨a9,L9⟩,n9⟩
 rw[hn9]at c9
 dsimp only at c9
 have hps:zgX x i (a4,x.L)=((a9,L9),ps++[n8,n9]):=by
  unfold zgX
  dsimp only
  rw[hpe]
  dsimp only
  rw[hn8]
  dsimp only
  rw[hn9]
 rw[hps]
 have hoo:[onL x x.now i].map onT=[.ag [.s x.now,T.n x.t,.v (.int .i64 (i:Int))]]:=by rw[qaj,qay,ho]
 rw[hoo]at c8 c9
 have hpb:ps.length≤1000000:=by omega
 clear hps hoo hpe hn8 hn9
 repeat' (first|refine wkt ?_|(apply TO.zpO 22 cp;(iterate 3 exact rfl);exact zqb;(iterate 7 exact rfl))|refine zab.exit ?_|exact wkc|intro hc|refine wk2 ?_ ?_|fail)
 apply TR.zaw 0 (g:=True) [(_,0,4),(_,0,3),(_,0,3),(_,0,3),(_,0,3),(_,0,2),(_,0,0),(_,0,0),(_,0,0),(_,0,0),(_,0,0),(_,0,0),(_,0,0),(_,1,0),(_,0,1),(_,0,1),(_,0,1),(_,1,0),(_,2,2),(_,1,0),(_,3,3),(.sl 1 ((x.parts.map fun l=>T.sl 1 (l.map T.s))++[T.sl 1 (ps.map T.s++[T.s n8,T.s n9])]) 12,1,0),(_,4,4),(_,4,4),(.any,1,0)] [(({ x with bodies:=x.bodies++[b] }:KS).s a7 L7).G++[.cells [.t (.s b.name),.t (zac b.ins),.t (zac b.outs),.t (zac b.locals),.t (.sl 7 (b.eqs.map equT)),.t (.sl 1 (b.autos.map zae)),.t (.sl 6 (b.assume.map exT)),.t (.sl 6 (b.ensure.map exT))],.tail (I.map zaa).length,.tail ((x.defs.map zaa).length+2),.tail (L.map zaa).length,.tail ((E.map equT).length+2),.tail (ts1.map chT).length,.tail (hs1.map chT).length,.cells [.s x.now,.n x.t,.i i],.tail (ps.map T.s).length],(({ x with bodies:=x.bodies++[b] }:KS).s a8 L8).G++[.cells [.t (.s b.name),.t (zac b.ins),.t (zac b.outs),.t (zac b.locals),.t (.sl 7 (b.eqs.map equT)),.t (.sl 1 (b.autos.map zae)),.t (.sl 6 (b.assume.map exT)),.t (.sl 6 (b.ensure.map exT))],.tail (I.map zaa).length,.tail ((x.defs.map zaa).length+2),.tail (L.map zaa).length,.tail ((E.map equT).length+2),.tail (ts1.map chT).length,.tail (hs1.map chT).length,.cells [.s x.now,.n x.t,.i i],.tail (ps.map T.s).length],(({ x with bodies:=x.bodies++[b] }:KS).s a9 L9).G++[.cells [.t (.s b.name),.t (zac b.ins),.t (zac b.outs),.t (zac b.locals),.t (.sl 7 (b.eqs.map equT)),.t (.sl 1 (b.autos.map zae)),.t (.sl 6 (b.assume.map exT)),.t (.sl 6 (b.ensure.map exT))],.tail (I.map zaa).length,.tail ((x.defs.map zaa).length+2),.tail (L.map zaa).length,.tail ((E.map equT).length+2),.tail (ts1.map chT).length,.tail (hs1.map chT).length,.cells [.s x.now,.n x.t,.i i],.tail (ps.map T.s).length],(({ x with bodies:=x.bodies++[b] }:KS).s a9 L9).G++[.cells [.t (.s b.name),.t (zac b.ins),.t (zac b.outs),.t (zac b.locals),.t (.sl 7 (b.eqs.map equT)),.t (.sl 1 (b.autos.map zae)),.t (.sl 6 (b.assume.map exT)),.t (.sl 6 (b.ensure.map exT))],.tail (I.map zaa).length,.tail ((x.defs.map zaa).length+2),.tail (L.map zaa).length,.tail ((E.map equT).length+2),.tail (ts1.map chT).length,.tail (hs1.map chT).length,.cells [.s x.now,.n x.t,.i i],.tail ((ps.map T.s).length+2)],[setB a9,adB,axB,.tail x.es.length,exB x.es,ndB x.c (L9.map zaa) x.Q,.tail (L9.map zaa).length,.tail x.Q.length,kB ({ x with bodies:=x.bodies++[b] }:KS).k,.tail x.k.defs.length,.tail x.k.conds.length,.tail ((x.bodies++[b]).map nodT).length,.tail ((x.parts.map fun l=>T.sl 1 (l.map T.s)).length+1),kx,.cells [.t (.s b.name),.t (zac b.ins),.t (zac b.outs),.t (zac b.locals),.t (.sl 7 (b.eqs.map equT)),.t (.sl 1 (b.autos.map zae)),.t (.sl 6 (b.assume.map exT)),.t (.sl 6 (b.ensure.map exT))],.tail (I.map zaa).length,.tail ((x.defs.map zaa).length+2),.tail (L.map zaa).length,.tail ((E.map equT).length+2),.tail (ts1.map chT).length,.tail (hs1.map chT).length,.cells [.s x.now,.n x.t,.i i],.tail ((ps.map T.s).length+2)],[setB a9,adB,axB,.tail x.es.length,exB x.es,ndB x.c (L9.map zaa) x.Q,.tail (L9.map zaa).length,.tail x.Q.length,kB { ({ x with bodies:=x.bodies++[b] }:KS).k with parts:=(x.parts.map fun l=>T.sl 1 (l.map T.s))++[T.sl 1 (ps.map T.s++[T.s n8,T.s n9])] },.tail x.k.defs.length,.tail x.k.conds.length,.tail ((x.bodies++[b]).map nodT).length,.tail ((x.parts.map fun l=>T.sl 1 (l.map T.s)).length+1),kx,.cells [.t (.s b.name),.t (zac b.ins),.t (zac b.outs),.t (zac b.locals),.t (.sl 7 (b.eqs.map equT)),.t (.sl 1 (b.autos.map zae)),.t (.sl 6 (b.assume.map exT)),.t (.sl 6 (b.ensure.map exT))],.tail (I.map zaa).length,.tail ((x.defs.map zaa).length+2),.tail (L.map zaa).length,.tail ((E.map equT).length+2),.tail (ts1.map chT).length,.tail (hs1.map chT).length,.cells [.s x.now,.n x.t,.i i],.tail ((ps.map T.s).length+2)]] hmix
 case hB=>exact zqv
 case h0=>exact rfl
 case hp=>
  repeat' (first|exact trivial|exact⟨⟨rfl,rfl⟩,trivial⟩|exact qaf rfl rfl|refine qaf (fun env=>?_) ?_|refine qaf ?_ ?_|refine wma ?_|(apply TO.zaE 13 c8;(iterate 3 exact rfl);exact zqb;(iterate 8 exact rfl))|(apply TO.zaE 13 c9;(iterate 3 exact rfl);exact zqb;(iterate 8 exact rfl))|(apply TO.zbb zag;(iterate 13 exact rfl);exact zqn;exact rfl;refine TO.zuK (Le.own _ _ _) ?_;exact qaf rfl rfl)|(apply TO.zbb zag;(iterate 13 exact rfl);exact zqn;exact rfl)|refine wmk ?_|fail)
  done
 case hc=>exact rfl
 case hF=>exact rfl
 case hE=>exact rfl
 intro _
 rw[show(x.parts.map fun l=>T.sl 1 (l.map T.s))++[T.sl 1 (ps.map T.s++[T.s n8,T.s n9])]=(x.parts++[ps++[n8,n9]]).map fun l=>T.sl 1 (l.map T.s) by simp,show(x.parts.map fun l=>T.sl 1 (l.map T.s)).length+1=((x.parts++[ps++[n8,n9]]).map fun l=>T.sl 1 (l.map T.s)).length by simp]
 repeat' (first|refine wkt ?_|refine wk ?_|fail)
 exact RetK.ziH 13 rfl (Le.refl _) rfl rfl rfl rfl rfl ⟨rfl,rfl⟩
end Go.Proofs.YtpnnpgbaiobbjaaGreatDoor
