import Derived.Test.YtpnnpgbaiobbjaaGreatDoorAk19
set_option linter.all false
namespace Go.Proofs.YtpnnpgbaiobbjaaGreatDoor
open Go Go.TL
attribute [local irreducible] TR TO Then zao RetK Sound zab Kf GG zaZ
theorem zdD(a:List Str)(es:List T)(c:Nc)(L Q:List T)(k:Kt)(nm:Str)(i:Int):Sound Tryz.prog 186 [.ref 8 0,.s nm,.i i] (kH a es c L Q k) (fun r H'=>r= .ret (.t (.ag [.s nm,.v (.int .i64 k.t),.v (.int .i64 i)]))/\H'=kH a es c L Q k):=by
 refine so Tryz.func186 ?_
 repeat' (first|refine wu ?_|exact wkc|intro hc|refine wk2 ?_ ?_|fail)
 refine RetK.keep 13 rfl (?_:Le _ (.t (.ag [.s nm,.v (.int .i64 k.t),.v (.int .i64 i)]))) rfl rfl rfl rfl rfl ⟨rfl,rfl⟩
 exact Le.tree rfl (TLe.refl _)
set_option maxHeartbeats 8000000 in
theorem za5 (a:List Str) (es:List T) (c:Nc) (L Q:List T) (k:Kt) (hQ:Q.length≤1000000000) (e:Ex) (left:List T):Sound Tryz.prog 189 [.ref 8 0,.t (.ag (exC e)),.t (.sl 1 left)] (kH a es c L Q k)
  (fun r H'=>r= .ret (.tup [])/\H'=kH a es c L (Q++[.ag (.sl 1 left::exC e)]) k):=by
 unfold exC
 refine so Tryz.func189 ?_
 repeat' (first|refine wkt ?_|fail)
 apply TR.zaw 0 (g:=True) [(_,0,1),(_,0,1),(_,0,1),(_,0,1),(_,0,0),(_,0,0),(_,0,0),(_,0,0),(_,0,0),(_,0,0),(_,0,0),(_,0,0),(_,0,0),(_,0,0),(_,0,0),(_,1,0),(_,1,1),(_,1,1),(.any,1,0)] [[setB a,adB,axB,.tail es.length,exB es,ndB c L Q,.tail L.length,.tail Q.length,kB k,.tail k.defs.length,.tail k.conds.length,.tail k.bodies.length,.tail k.parts.length],[setB a,adB,axB,.tail es.length,exB es,ndB c L Q,.tail L.length,.tail (Q.length+1),kB k,.tail k.defs.length,.tail k.conds.length,.tail k.bodies.length,.tail k.parts.length],[setB a,adB,axB,.tail es.length,exB es,ndB c L (Q++[.ag (.sl 1 left::exC e)]),.tail L.length,.tail (Q.length+1),kB k,.tail k.defs.length,.tail k.conds.length,.tail k.bodies.length,.tail k.parts.length]] hmix
 case hB=>exact zqv
 case h0=>exact rfl
 case hp=>
  repeat' (first|exact trivial|exact⟨⟨rfl,rfl⟩,trivial⟩|exact qaf rfl rfl|refine qaf (fun env=>?_) ?_|refine qaf ?_ ?_|refine wma ?_|(apply TO.zbb zag;(iterate 13 exact rfl);exact zqn;exact rfl)|refine wmk ?_|fail)
  done
 case hc=>exact rfl
 case hF=>exact rfl
 case hE=>exact rfl
 case hK=>
  intro _
  repeat' (first|refine wu ?_|exact wkc|intro hc|refine wk2 ?_ ?_|fail)
  exact RetK.ziH 13 rfl (Le.refl _) rfl rfl rfl rfl rfl ⟨rfl,by simp[exC]⟩
abbrev kx:Blk:=.cells [.ref 8 0]
theorem zmh(a:List Str)(h:Room a 1)(es:List T)(c:Nc)(L Q:List T)(k:Kt)(hL:L.length≤1000000000)(i:Int)(t:Tran):Sound Tryz.prog 177 [.i i,.t (zah t),.ref 13 0] (kH a es c L Q k++[kx])
  (fun r H'=>r= .ret (.t (T.s (zaQ a [99,111,110,100])))/\H'=kH (ins a (zaQ a [99,111,110,100])) es c (L++[.ag [.s (zaQ a [99,111,110,100]),.v (.int .i64 1),.sl 3 []]]) Q k++[kx]):=by
 have c1:=zhS a h es c L Q k hL [99,111,110,100] (by decide) 1 []
 generalize zaQ a [99,111,110,100]=nm at*
 generalize ins a nm=a' at*
 unfold zah
 refine so Tryz.func177 ?_
 repeat' (first|refine wkt ?_|(apply TO.zaE 13 c1;(iterate 3 exact rfl);exact zqb;(iterate 8 exact rfl))|refine wk ?_|fail)
 exact RetK.keep 14 rfl (Le.refl _) rfl rfl rfl rfl rfl ⟨rfl,rfl⟩
def bT:I64:=i64 1
abbrev ze9:Str:=[109,111,100,101]
abbrev sAt:Str:=[97,116]
abbrev sWas:Str:=[119,97,115]
abbrev zkd:Str:=[102,108,97,103]
abbrev zeb:Str:=[99,111,110,100]
abbrev sNow:Str:=[110,111,119]
abbrev zoh:Str:=[114,101,115,101,116]
abbrev zbM:Str:=[98,111,100,121]
abbrev zbo:Str:=[110,101,120,116]
abbrev zcd:Str:=[98,97,99,107]
abbrev ziN:Str:=[112,97,114,116]
theorem zfq(l:List Decl)(nm:Str)(t:I64)(ck:List OnC):(l++[(⟨nm,t,ck⟩:Decl)]).map zaa=l.map zaa++[.ag [.s nm,.v (.int .i64 t.1),.sl 3 (ck.map onT)]]:=by rw[qal];rfl
theorem zbg(s:Lc)(h:Room s.1 1)(es:List T)(c:Nc)(Q:List T)(k:Kt)(hL:s.2.length≤1000000000)(base:Str)(hb:base.length≤1000)(t:I64)(ck:List OnC):Sound Tryz.prog 120 [.ref 8 0,.s base,.n t,.t (.sl 3 (ck.map onT))] (kH s.1 es c (s.2.map zaa) Q k)
  (fun r H'=>r= .ret (.s (locF base t ck s).2)/\H'=kH (locF base t ck s).1.1 es c ((locF base t ck s).1.2.map zaa) Q k):=by
 have:=zhS s.1 h es c (s.2.map zaa) Q k (by rw[qaa];exact hL) base hb t.1 (ck.map onT)
 unfold locF
 dsimp only
 rw[zfq]
 exact this
theorem zmg(s:Lc)(h:Room s.1 1)(es:List T)(c:Nc)(Q:List T)(k:Kt)(hL:s.2.length≤1000000000)(i:Int)(t:Tran):Sound Tryz.prog 177 [.i i,.t (zah t),.ref 13 0] (kH s.1 es c (s.2.map zaa) Q k++[kx])
  (fun r H'=>r= .ret (.t (T.s (locF zeb bT [] s).2))/\H'=kH (locF zeb bT [] s).1.1 es c ((locF zeb bT [] s).1.2.map zaa) Q k++[kx]):=by
 have:=zmh s.1 h es c (s.2.map zaa) Q k (by rw[qaa];exact hL) i t
 unfold locF
 dsimp only
 rw[zfq]
 exact this
def cndS(s:Lc)(l:List Tran):Lc×List Str:=mapS (fun s (_:Tran)=>locF zeb bT [] s) s l
theorem zkN:∀(l:List Tran) (s:Lc) (n:Nat),Room s.1 (l.length+n)->Room (cndS s l).1.1 n
 | [],s,n,h=>h.mono (by simp)
 | x::l,s,n,h=>zkN l _ n (Room.loc1 (s:=s) (h.mono (by simp only[qam];omega)) (by decide))
theorem znO:∀(l:List Tran) (s:Lc),(cndS s l).1.2.length=s.2.length+l.length
 | [],s=>rfl
 | x::l,s=>by
   have:=znO l (locF zeb bT [] s).1
   show(cndS (locF zeb bT [] s).1 l).1.2.length=_
   exact zwek
theorem zkP(s:Lc)(l:List Tran)(h:Room s.1 l.length)(es:List T)(c:Nc)(Q:List T)(k:Kt)(hL:s.2.length+l.length≤1000000000):Sound Tryz.prog 176 [.t (.sl 8 (l.map zah)),.fn 177 [.ref 13 0]] (kH s.1 es c (s.2.map zaa) Q k++[kx])
  (fun r H'=>r= .ret (.sl 1 ((cndS s l).2.map T.s) 14)/\H'=kH (cndS s l).1.1 es c ((cndS s l).1.2.map zaa) Q k++[kx]++[.tail l.length]):=by
 have:=zmT (fun s:Lc=>kH s.1 es c (s.2.map zaa) Q k++[kx]) 14 (fun _=>rfl) (fun _=>rfl) 177 [.ref 13 0] rfl (fun _ s (_:Tran)=>locF zeb bT [] s) (fun i s=>Room s.1 (l.length-i)/\s.2.length≤1000000000-(l.length-i)) l (by omega)
  (fun i s x hx hi=>by
    have hlt:=(qab.1 hx).1
    exact zmg s (hi.1.mono (by omega)) es c Q k (by omega) i x)
  (fun i s x hx hi=>by
    have hlt:=(qab.1 hx).1
    refine⟨Room.loc1 (s:=s) (hi.1.mono (by omega)) (by decide),?_⟩
    simp only[locF,qae,qam,qaD]
    omega)
  s ⟨h.mono (by omega),by omega⟩
 rw[zq5]at this
 exact this
abbrev k0 (sts:List Sta)(defs:List T):Kt:=⟨.sl 6 (sts.map staT),0,defs,[],[],[],[],[],[],[],[],[]⟩
structure Tk where
 t:I64
 was:Str
 flag:Str
 conds:List (List Str)
 now:Str
 reset:Str
def zce(a:List Str)(l:List Sta):List Str×List Str:=mapS (fun a (_:Sta)=>frF a sAt) a l
def zb5(s:Lc)(l:List Sta):Lc×List (List Str):=mapS (fun s (x:Sta)=>cndS s x.unl) s l
def dclF(s:Lc)(n:Nat)(sts:List Sta):Lc×En×Tk:=
 let m:=frF s.1 ze9
 let g:=zce m.1 sts
 let t:=toI (3+n)
 let was:=locF sWas t [] (g.1,s.2)
 let flag:=locF zkd bT [] was.1
 let cs:=zb5 flag.1 sts
 let now:=locF sNow t [] cs.1
 let rst:=locF zoh bT [] now.1
 (rst.1,⟨m.2,g.2⟩,⟨t,was.2,flag.2,cs.2,now.2,rst.2⟩)
abbrev k1 (sts:List Sta)(defs:List T)(k:Tk):Kt:=⟨.sl 6 (sts.map staT),k.t.1,defs,k.was,k.flag,k.conds.map fun l=>T.sl 1 (l.map T.s),k.now,k.reset,[],[],[],[]⟩
theorem zeN:∀(l:List Sta) (a:List Str) (n:Nat),Room a (l.length+n)->Room (zce a l).1 n
 | [],a,n,h=>h.mono (by simp)
 | x::l,a,n,h=>zeN l _ n (Room.fr1 (h.mono (by simp only[qam];omega)) (by decide))
theorem zf2:∀(l:List Sta) (s:Lc) (n:Nat),(∀x∈l,x.unl.length≤4)->Room s.1 (4*l.length+n)->Room (zb5 s l).1.1 n
 | [],s,n,_,h=>h.mono (by simp)
 | x::l,s,n,hu,h=>zf2 l _ n (fun y hy=>hu y (qar _ hy)) (zkN x.unl s _ (h.mono (by have:=hu x (qas ..);simp only[qam];omega)))
theorem zhx:∀(l:List Sta) (s:Lc),(∀x∈l,x.unl.length≤4)->(zb5 s l).1.2.length≤s.2.length+4*l.length
 | [],s,_=>by show s.2.length≤_;omega
 | x::l,s,hu=>by
   have h1:=zhx l (cndS s x.unl).1 fun y hy=>hu y (qar _ hy)
   rw[znO]at h1
   have h2:=hu x (qas ..)
   show(zb5 (cndS s x.unl).1 l).1.2.length≤_
   simp only[qam]
   omega
set_option maxHeartbeats 16000000 in
theorem ziB (s:Lc) (es:List En) (sts:List Sta) (hl:sts.length≤8) (hu:∀x∈sts,x.unl.length≤4) (h:Room s.1 100) (hL:s.2.length≤100000000) (he:es.length≤100000000) (c:Nc) (Q defs:List T):
  Sound Tryz.prog 118 [.ref 8 0] (kH s.1 (es.map enT) c (s.2.map zaa) Q (k0 sts defs)) (fun r H'=>r= .ret (.tup [])/\
   H'=kH (dclF s es.length sts).1.1 ((es++[(dclF s es.length sts).2.1]).map enT) c ((dclF s es.length sts).1.2.map zaa) Q (k1 sts defs (dclF s es.length sts).2.2)):=by
 have hml:(sts.map staT).length=sts.length:=qaa _
 have hme:(es.map enT).length=es.length:=qaa _
 have c1:=zbC s.1 (h.mono (by decide)) ze9 (by decide)
 have hR1:Room (frF s.1 ze9).1 99:=Room.fr1 h (by decide)
 have hR2:=fun j=>zeN (sts.take j) _ 91 (hR1.mono (by rw[qaV];omega))
 unfold dclF
 dsimp only
 unfold frF at*
 dsimp only at*
 generalize zaQ s.1 ze9=m at*
 generalize ins s.1 m=a1 at*
 refine so Tryz.func118 ?_
 repeat' (first|refine zqy ?_|refine wkb ?_|(apply TO.zaE 3 c1;(iterate 3 exact rfl);exact zqb;(iterate 8 exact rfl))|fail)
 refine zqx ?_
 repeat' (first|refine wkb ?_|fail)
 refine TR.zcA 1 14 1 rfl rfl rfl ?_
 refine TR.zal sts.length (fun _=>True) (fun j=>[(1,.ref 13 0),(2,.ref 14 0),(21,.t (.sl 6 (sts.map staT))),(22,.i sts.length),(23,.i j)]) (fun j=>kH (zce a1 (sts.take j)).1 (es.map enT) c (s.2.map zaa) Q (k0 sts defs)++[kx,.cells [.s m,.sl 1 ((zce a1 (sts.take j)).2.map T.s) 15],.tail ((zce a1 (sts.take j)).2.map T.s).length]) trivial (fun j hlt _=>?_) (fun _=>?_) ⟨rfl,rfl,rfl,by rw[<-hml];rfl,rfl,trivial⟩ rfl
 ·have hn:zce a1 (sts.take (j+1))=_:=zq6 (fun a (_:Sta)=>frF a sAt) a1 hlt
  have hR:=hR2 j
  have hlen:(zce a1 (sts.take j)).2.length≤8:=by unfold zce;rw[zcq,qaV];omega
  change zce a1 (sts.take (j+1))=((frF (zce a1 (sts.take j)).1 sAt).1,(zce a1 (sts.take j)).2++[(frF (zce a1 (sts.take j)).1 sAt).2])at hn
  unfold frF at hn
  generalize zce a1 (sts.take j)=at1 at*
  obtain⟨a2,tg⟩:=at1
  dsimp only at*
  have c2:=zbC a2 (hR.mono (by decide)) sAt (by decide)
  generalize zaQ a2 sAt=nm at*
  generalize ins a2 nm=a3 at*
  repeat' (first|refine wkt ?_|refine zab.exit ?_|exact wkc|intro hc|refine wk2 ?_ ?_|fail)
  apply TR.zaw 0 (g:=True) [(_,0,1),(_,0,1),(_,0,2),(_,0,0),(_,0,0),(_,0,0),(_,0,0),(_,0,0),(_,0,0),(_,0,0),(_,0,0),(_,0,0),(_,1,0),(_,1,1),(_,1,0),(_,2,2),(.any,1,0)] [[setB a2,adB,axB,.tail (es.map enT).length,exB (es.map enT),ndB c (s.2.map zaa) Q,.tail (s.2.map zaa).length,.tail Q.length,kB (k0 sts defs),.tail (k0 sts defs).defs.length,.tail (k0 sts defs).conds.length,.tail (k0 sts defs).bodies.length,.tail (k0 sts defs).parts.length,kx,.cells [.s m,.sl 1 (tg.map T.s) 15],.tail (tg.map T.s).length],[setB a3,adB,axB,.tail (es.map enT).length,exB (es.map enT),ndB c (s.2.map zaa) Q,.tail (s.2.map zaa).length,.tail Q.length,kB (k0 sts defs),.tail (k0 sts defs).defs.length,.tail (k0 sts defs).conds.length,.tail (k0 sts defs).bodies.length,.tail (k0 sts defs).parts.length,kx,.cells [.s m,.sl 1 (tg.map T.s) 15],.tail (tg.map T.s).length],[setB a3,adB,axB,.tail (es.map enT).length,exB (es.map enT),ndB c (s.2.map zaa) Q,.tail (s.2.map zaa).length,.tail Q.length,kB (k0 sts defs),.tail (k0 sts defs).defs.length,.tail (k0 sts defs).conds.length,.tail (k0 sts defs).bodies.length,.tail (k0 sts defs).parts.length,kx,.cells [.s m,.sl 1 (tg.map T.s) 15],.tail ((tg.map T.s).length+1)],[setB a3,adB,axB,.tail (es.map enT).length,exB (es.map enT),ndB c (s.2.map zaa) Q,.tail (s.2.map zaa).length,.tail Q.length,kB (k0 sts defs),.tail (k0 sts defs).defs.length,.tail (k0 sts defs).conds.length,.tail (k0 sts defs).bodies.length,.tail (k0 sts defs).parts.length,kx,.cells [.s m,.sl 1 (tg.map T.s++[T.s nm]) 15],.tail ((tg.map T.s).length+1)]] hmix
  case hB=>exact zqv
  case h0=>exact rfl
  case hp=>
   repeat' (first|exact trivial|exact⟨⟨rfl,rfl⟩,trivial⟩|exact qaf rfl rfl|refine qaf (fun env=>?_) ?_|refine qaf ?_ ?_|refine wma ?_|(apply TO.zaE 3 c2;(iterate 3 exact rfl);exact zqb;(iterate 8 exact rfl))|(apply TO.zbb zag;(iterate 13 exact rfl);exact zqn;exact rfl)|refine wmk ?_|fail)
   done
  case hc=>exact rfl
  case hF=>exact rfl
  case hE=>exact rfl
  intro _
  repeat' (first|refine wkt ?_|refine zab.exit ?_|refine wk ?_|fail)
  exact zab.zat hlt trivial (by(try dsimp only);exact⟨rfl,rfl,rfl,rfl,rfl,trivial⟩) (by(try dsimp only);rw[hn];dsimp only;rw[qal,qae];rfl)
 rw[qah]
 have hR3:=hR2 sts.length
 have hR4:=hR2 sts.length
 rw[qah]at hR3
 have htl:(zce a1 sts).2.length≤8:=by unfold zce;rw[zcq];omega
 clear hR2 hR4 c1 hR1
 generalize zce a1 sts=at1 at*
 obtain⟨a2,tg⟩:=at1
 dsimp only at*
 have ht:3+((es.map enT).length:Int)=(toI (3+es.length)).1:=by rw[zkm (by omega),hme];omega
 obtain⟨ES,hES⟩:∃ES:List T,ES=es.map enT++[T.ag [.s m,.sl 1 (tg.map T.s)]]:=⟨_,rfl⟩
 have hlE:(es.map enT).length+1=ES.length:=by rw[hES];simp
 have hES2:(es++[(⟨m,tg⟩:En)]).map enT=ES:=by rw[hES,qal];rfl
 rw[hES2]
 refine TR.forget 14 1 rfl rfl rfl ?_
 repeat' (first|refine wkt ?_|refine zab.exit ?_|exact wkc|intro hc|refine wk2 ?_ ?_|fail)
 apply TR.zaw 0 (g:=True) [(_,0,0),(_,0,0),(_,0,0),(_,0,0),(_,0,0),(_,0,0),(_,0,0),(_,0,0),(_,0,0),(_,0,0),(_,0,0),(_,0,0),(.any,1,0)] [[setB a2,adB,axB,.tail (es.map enT).length,exB (es.map enT),ndB c (s.2.map zaa) Q,.tail (s.2.map zaa).length,.tail Q.length,kB (k0 sts defs),.tail (k0 sts defs).defs.length,.tail (k0 sts defs).conds.length,.tail (k0 sts defs).bodies.length,.tail (k0 sts defs).parts.length,kx,.cells [.s m,.t (.sl 1 (tg.map T.s))],.tail (tg.map T.s).length],[setB a2,adB,axB,.tail (es.map enT).length,exB (es.map enT),ndB c (s.2.map zaa) Q,.tail (s.2.map zaa).length,.tail Q.length,kB (⟨.sl 6 (sts.map staT),(3+((es.map enT).length:Int)),defs,[],[],[],[],[],[],[],[],[]⟩:Kt),.tail (⟨.sl 6 (sts.map staT),(3+((es.map enT).length:Int)),defs,[],[],[],[],[],[],[],[],[]⟩:Kt).defs.length,.tail (⟨.sl 6 (sts.map staT),(3+((es.map enT).length:Int)),defs,[],[],[],[],[],[],[],[],[]⟩:Kt).conds.length,.tail (⟨.sl 6 (sts.map staT),(3+((es.map enT).length:Int)),defs,[],[],[],[],[],[],[],[],[]⟩:Kt).bodies.length,.tail (⟨.sl 6 (sts.map staT),(3+((es.map enT).length:Int)),defs,[],[],[],[],[],[],[],[],[]⟩:Kt).parts.length,kx,.cells [.s m,.t (.sl 1 (tg.map T.s))],.tail (tg.map T.s).length]] hmix
 case hB=>exact zqv
 case h0=>exact rfl
 case hp=>
  repeat' (first|exact trivial|exact⟨⟨rfl,rfl⟩,trivial⟩|exact qaf rfl rfl|refine qaf (fun env=>?_) ?_|refine qaf ?_ ?_|refine wma ?_|refine wmk ?_|fail)
  done
 case hc=>exact rfl
 case hF=>exact rfl
 case hE=>exact rfl
 intro _
 rw[ht]
 generalize toI (3+es.length)=tv at*
 repeat' (first|refine wkt ?_|fail)
 apply TR.zaw 0 (g:=True) [(_,0,1),(_,0,1),(_,0,1),(_,0,1),(_,0,0),(_,0,0),(_,0,0),(_,0,0),(_,0,0),(_,0,0),(_,0,0),(_,0,0),(_,0,0),(_,1,0),(_,1,1),(_,1,1),(.any,1,0)] [[setB a2,adB,axB,.tail (es.map enT).length,exB (es.map enT),ndB c (s.2.map zaa) Q,.tail (s.2.map zaa).length,.tail Q.length,kB (⟨.sl 6 (sts.map staT),tv.1,defs,[],[],[],[],[],[],[],[],[]⟩:Kt),.tail (⟨.sl 6 (sts.map staT),tv.1,defs,[],[],[],[],[],[],[],[],[]⟩:Kt).defs.length,.tail (⟨.sl 6 (sts.map staT),tv.1,defs,[],[],[],[],[],[],[],[],[]⟩:Kt).conds.length,.tail (⟨.sl 6 (sts.map staT),tv.1,defs,[],[],[],[],[],[],[],[],[]⟩:Kt).bodies.length,.tail (⟨.sl 6 (sts.map staT),tv.1,defs,[],[],[],[],[],[],[],[],[]⟩:Kt).parts.length,kx,.cells [.s m,.t (.sl 1 (tg.map T.s))],.tail (tg.map T.s).length],[setB a2,adB,axB,.tail ((es.map enT).length+1),exB (es.map enT),ndB c (s.2.map zaa) Q,.tail (s.2.map zaa).length,.tail Q.length,kB (⟨.sl 6 (sts.map staT),tv.1,defs,[],[],[],[],[],[],[],[],[]⟩:Kt),.tail (⟨.sl 6 (sts.map staT),tv.1,defs,[],[],[],[],[],[],[],[],[]⟩:Kt).defs.length,.tail (⟨.sl 6 (sts.map staT),tv.1,defs,[],[],[],[],[],[],[],[],[]⟩:Kt).conds.length,.tail (⟨.sl 6 (sts.map staT),tv.1,defs,[],[],[],[],[],[],[],[],[]⟩:Kt).bodies.length,.tail (⟨.sl 6 (sts.map staT),tv.1,defs,[],[],[],[],[],[],[],[],[]⟩:Kt).parts.length,kx,.cells [.s m,.t (.sl 1 (tg.map T.s))],.tail (tg.map T.s).length],[setB a2,adB,axB,.tail ((es.map enT).length+1),exB (es.map enT++[T.ag [.s m,.sl 1 (tg.map T.s)]]),ndB c (s.2.map zaa) Q,.tail (s.2.map zaa).length,.tail Q.length,kB (⟨.sl 6 (sts.map staT),tv.1,defs,[],[],[],[],[],[],[],[],[]⟩:Kt),.tail (⟨.sl 6 (sts.map staT),tv.1,defs,[],[],[],[],[],[],[],[],[]⟩:Kt).defs.length,.tail (⟨.sl 6 (sts.map staT),tv.1,defs,[],[],[],[],[],[],[],[],[]⟩:Kt).conds.length,.tail (⟨.sl 6 (sts.map staT),tv.1,defs,[],[],[],[],[],[],[],[],[]⟩:Kt).bodies.length,.tail (⟨.sl 6 (sts.map staT),tv.1,defs,[],[],[],[],[],[],[],[],[]⟩:Kt).parts.length,kx,.cells [.s m,.t (.sl 1 (tg.map T.s))],.tail (tg.map T.s).length]] hmix
 case hB=>exact zqv
 case h0=>exact rfl
 case hp=>
  repeat' (first|exact trivial|exact⟨⟨rfl,rfl⟩,trivial⟩|exact qaf rfl rfl|refine qaf (fun env=>?_) ?_|refine qaf ?_ ?_|refine wma ?_|(apply TO.zbb zag;(iterate 13 exact rfl);exact zqn;exact rfl)|refine wmk ?_|fail)
  done
 case hc=>exact rfl
 case hF=>exact rfl
 case hE=>exact rfl
 intro _
 rw[<-hES,hlE]
 repeat' (first|refine wkt ?_|fail)
 have c3:=zbg (a2,s.2) (hR3.mono (by decide)) ES c Q (⟨.sl 6 (sts.map staT),tv.1,defs,[],[],[],[],[],[],[],[],[]⟩:Kt) (by dsimp only;omega) sWas (by decide) tv []
 have hR5:Room (locF sWas tv [] (a2,s.2)).1.1 90:=Room.loc1 (s:=(a2,s.2)) hR3 (by decide)
 have hL5:(locF sWas tv [] (a2,s.2)).1.2.length=s.2.length+1:=by simp[locF]
 generalize locF sWas tv [] (a2,s.2)=w1 at*
 obtain⟨⟨a3,L3⟩,nm3⟩:=w1
 dsimp only at*
 apply TR.zaw 0 (g:=True) [(_,0,1),(_,0,0),(_,0,0),(_,0,0),(_,0,0),(_,0,0),(_,1,0),(_,1,1),(_,1,1),(.any,1,0)] [[setB a2,adB,axB,.tail ES.length,exB ES,ndB c (s.2.map zaa) Q,.tail (s.2.map zaa).length,.tail Q.length,kB (⟨.sl 6 (sts.map staT),tv.1,defs,[],[],[],[],[],[],[],[],[]⟩:Kt),.tail (⟨.sl 6 (sts.map staT),tv.1,defs,[],[],[],[],[],[],[],[],[]⟩:Kt).defs.length,.tail (⟨.sl 6 (sts.map staT),tv.1,defs,[],[],[],[],[],[],[],[],[]⟩:Kt).conds.length,.tail (⟨.sl 6 (sts.map staT),tv.1,defs,[],[],[],[],[],[],[],[],[]⟩:Kt).bodies.length,.tail (⟨.sl 6 (sts.map staT),tv.1,defs,[],[],[],[],[],[],[],[],[]⟩:Kt).parts.length,kx,.cells [.s m,.t (.sl 1 (tg.map T.s))],.tail (tg.map T.s).length],[setB a3,adB,axB,.tail ES.length,exB ES,ndB c (L3.map zaa) Q,.tail (L3.map zaa).length,.tail Q.length,kB (⟨.sl 6 (sts.map staT),tv.1,defs,[],[],[],[],[],[],[],[],[]⟩:Kt),.tail (⟨.sl 6 (sts.map staT),tv.1,defs,[],[],[],[],[],[],[],[],[]⟩:Kt).defs.length,.tail (⟨.sl 6 (sts.map staT),tv.1,defs,[],[],[],[],[],[],[],[],[]⟩:Kt).conds.length,.tail (⟨.sl 6 (sts.map staT),tv.1,defs,[],[],[],[],[],[],[],[],[]⟩:Kt).bodies.length,.tail (⟨.sl 6 (sts.map staT),tv.1,defs,[],[],[],[],[],[],[],[],[]⟩:Kt).parts.length,kx,.cells [.s m,.t (.sl 1 (tg.map T.s))],.tail (tg.map T.s).length],[setB a3,adB,axB,.tail ES.length,exB ES,ndB c (L3.map zaa) Q,.tail (L3.map zaa).length,.tail Q.length,kB (⟨.sl 6 (sts.map staT),tv.1,defs,nm3,[],[],[],[],[],[],[],[]⟩:Kt),.tail (⟨.sl 6 (sts.map staT),tv.1,defs,nm3,[],[],[],[],[],[],[],[]⟩:Kt).defs.length,.tail (⟨.sl 6 (sts.map staT),tv.1,defs,nm3,[],[],[],[],[],[],[],[]⟩:Kt).conds.length,.tail (⟨.sl 6 (sts.map staT),tv.1,defs,nm3,[],[],[],[],[],[],[],[]⟩:Kt).bodies.length,.tail (⟨.sl 6 (sts.map staT),tv.1,defs,nm3,[],[],[],[],[],[],[],[]⟩:Kt).parts.length,kx,.cells [.s m,.t (.sl 1 (tg.map T.s))],.tail (tg.map T.s).length]] hmix
 case hB=>exact zqv
 case h0=>exact rfl
 case hp=>
  repeat' (first|exact trivial|exact⟨⟨rfl,rfl⟩,trivial⟩|exact qaf rfl rfl|refine qaf (fun env=>?_) ?_|refine qaf ?_ ?_|refine wma ?_|(apply TO.zaE 13 c3;(iterate 3 exact rfl);exact zqb;(iterate 8 exact rfl))|refine wmk ?_|fail)
  done
 case hc=>exact rfl
 case hF=>exact rfl
 case hE=>exact rfl
 intro _
 repeat' (first|refine wkt ?_|fail)
 have c4:=zbg (a3,L3) (hR5.mono (by decide)) ES c Q (⟨.sl 6 (sts.map staT),tv.1,defs,nm3,[],[],[],[],[],[],[],[]⟩:Kt) (by dsimp only;omega) zkd (by decide) bT []
 have hR6:Room (locF zkd bT [] (a3,L3)).1.1 89:=Room.loc1 (s:=(a3,L3)) hR5 (by decide)
 have hL6:(locF zkd bT [] (a3,L3)).1.2.length=s.2.length+2:=by simp[locF];omega
 generalize locF zkd bT [] (a3,L3)=w2 at*
 obtain⟨⟨a4,L4⟩,nm4⟩:=w2
 dsimp only at*
 apply TR.zaw 0 (g:=True) [(_,0,1),(_,0,0),(_,1,0),(_,1,1),(_,1,1),(.any,1,0)] [[setB a3,adB,axB,.tail ES.length,exB ES,ndB c (L3.map zaa) Q,.tail (L3.map zaa).length,.tail Q.length,kB (⟨.sl 6 (sts.map staT),tv.1,defs,nm3,[],[],[],[],[],[],[],[]⟩:Kt),.tail (⟨.sl 6 (sts.map staT),tv.1,defs,nm3,[],[],[],[],[],[],[],[]⟩:Kt).defs.length,.tail (⟨.sl 6 (sts.map staT),tv.1,defs,nm3,[],[],[],[],[],[],[],[]⟩:Kt).conds.length,.tail (⟨.sl 6 (sts.map staT),tv.1,defs,nm3,[],[],[],[],[],[],[],[]⟩:Kt).bodies.length,.tail (⟨.sl 6 (sts.map staT),tv.1,defs,nm3,[],[],[],[],[],[],[],[]⟩:Kt).parts.length,kx,.cells [.s m,.t (.sl 1 (tg.map T.s))],.tail (tg.map T.s).length],[setB a4,adB,axB,.tail ES.length,exB ES,ndB c (L4.map zaa) Q,.tail (L4.map zaa).length,.tail Q.length,kB (⟨.sl 6 (sts.map staT),tv.1,defs,nm3,[],[],[],[],[],[],[],[]⟩:Kt),.tail (⟨.sl 6 (sts.map staT),tv.1,defs,nm3,[],[],[],[],[],[],[],[]⟩:Kt).defs.length,.tail (⟨.sl 6 (sts.map staT),tv.1,defs,nm3,[],[],[],[],[],[],[],[]⟩:Kt).conds.length,.tail (⟨.sl 6 (sts.map staT),tv.1,defs,nm3,[],[],[],[],[],[],[],[]⟩:Kt).bodies.length,.tail (⟨.sl 6 (sts.map staT),tv.1,defs,nm3,[],[],[],[],[],[],[],[]⟩:Kt).parts.length,kx,.cells [.s m,.t (.sl 1 (tg.map T.s))],.tail (tg.map T.s).length],[setB a4,adB,axB,.tail ES.length,exB ES,ndB c (L4.map zaa) Q,.tail (L4.map zaa).length,.tail Q.length,kB (⟨.sl 6 (sts.map staT),tv.1,defs,nm3,nm4,[],[],[],[],[],[],[]⟩:Kt),.tail (⟨.sl 6 (sts.map staT),tv.1,defs,nm3,nm4,[],[],[],[],[],[],[]⟩:Kt).defs.length,.tail (⟨.sl 6 (sts.map staT),tv.1,defs,nm3,nm4,[],[],[],[],[],[],[]⟩:Kt).conds.length,.tail (⟨.sl 6 (sts.map staT),tv.1,defs,nm3,nm4,[],[],[],[],[],[],[]⟩:Kt).bodies.length,.tail (⟨.sl 6 (sts.map staT),tv.1,defs,nm3,nm4,[],[],[],[],[],[],[]⟩:Kt).parts.length,kx,.cells [.s m,.t (.sl 1 (tg.map T.s))],.tail (tg.map T.s).length]] hmix
 case hB=>exact zqv
 case h0=>exact rfl
 case hp=>
  repeat' (first|exact trivial|exact⟨⟨rfl,rfl⟩,trivial⟩|exact qaf rfl rfl|refine qaf (fun env=>?_) ?_|refine qaf ?_ ?_|refine wma ?_|(apply TO.zaE 13 c4;(iterate 3 exact rfl);exact zqb;(iterate 8 exact rfl))|refine wmk ?_|fail)
  done
 case hc=>exact rfl
 case hF=>exact rfl
 case hE=>exact rfl
 intro _
 repeat' (first|refine wkt ?_|refine zab.exit ?_|exact wkc|intro hc|refine wk2 ?_ ?_|fail)
 have hCR:=fun j=>zf2 (sts.take j) (a4,L4) 57 (fun x hx=>hu x (qaR hx)) (hR6.mono (by rw[qaV];omega))
 have hCL:=fun j=>zhx (sts.take j) (a4,L4) (fun x hx=>hu x (qaR hx))
 refine TR.zal sts.length (fun _=>True) (fun j=>[(1,.ref 13 0),(88,.t (.sl 6 (sts.map staT))),(89,.i sts.length),(90,.i j)]) (fun j=>[setB (zb5 (a4,L4) (sts.take j)).1.1,adB,axB,.tail ES.length,exB ES,ndB c ((zb5 (a4,L4) (sts.take j)).1.2.map zaa) Q,.tail ((zb5 (a4,L4) (sts.take j)).1.2.map zaa).length,.tail Q.length,kB (⟨.sl 6 (sts.map staT),tv.1,defs,nm3,nm4,((zb5 (a4,L4) (sts.take j)).2.map fun l=>T.sl 1 (l.map T.s)),[],[],[],[],[],[]⟩:Kt),.tail (⟨.sl 6 (sts.map staT),tv.1,defs,nm3,nm4,((zb5 (a4,L4) (sts.take j)).2.map fun l=>T.sl 1 (l.map T.s)),[],[],[],[],[],[]⟩:Kt).defs.length,.tail (⟨.sl 6 (sts.map staT),tv.1,defs,nm3,nm4,((zb5 (a4,L4) (sts.take j)).2.map fun l=>T.sl 1 (l.map T.s)),[],[],[],[],[],[]⟩:Kt).conds.length,.tail (⟨.sl 6 (sts.map staT),tv.1,defs,nm3,nm4,((zb5 (a4,L4) (sts.take j)).2.map fun l=>T.sl 1 (l.map T.s)),[],[],[],[],[],[]⟩:Kt).bodies.length,.tail (⟨.sl 6 (sts.map staT),tv.1,defs,nm3,nm4,((zb5 (a4,L4) (sts.take j)).2.map fun l=>T.sl 1 (l.map T.s)),[],[],[],[],[],[]⟩:Kt).parts.length,kx,.cells [.s m,.t (.sl 1 (tg.map T.s))],.tail (tg.map T.s).length]) trivial (fun j hlt _=>?_) (fun _=>?_) ⟨rfl,rfl,by rw[<-hml];rfl,rfl,trivial⟩ rfl
 ·have hx:=zar staT hlt
  rw[za8]at hx
  have hn:zb5 (a4,L4) (sts.take (j+1))=((cndS (zb5 (a4,L4) (sts.take j)).1 sts[j].unl).1,(zb5 (a4,L4) (sts.take j)).2++[(cndS (zb5 (a4,L4) (sts.take j)).1 sts[j].unl).2]):=zq6 (fun s (x:Sta)=>cndS s x.unl) (a4,L4) hlt
  have hul:=hu _ (qad hlt)
  have hR:=hCR j
  have hLl:=hCL j
  have hcl:(zb5 (a4,L4) (sts.take j)).2.length≤8:=by unfold zb5;rw[zcq,qaV];omega
  have htj:(sts.take j).length≤8:=by rw[qaV];omega
  generalize zb5 (a4,L4) (sts.take j)=cj at*
  obtain⟨⟨a5,L5⟩,cs⟩:=cj
  dsimp only at*
  generalize sts[j]=x at*
  have c5:=zkP (a5,L5) x.unl (hR.mono (by omega)) ES c Q (⟨.sl 6 (sts.map staT),tv.1,defs,nm3,nm4,(cs.map fun l=>T.sl 1 (l.map T.s)),[],[],[],[],[],[]⟩:Kt) (by dsimp only;omega)
  dsimp only at c5
  generalize cndS (a5,L5) x.unl=cx at*
  obtain⟨⟨a6,L6⟩,nm5⟩:=cx
  dsimp only at*
  have hcm:(cs.map fun l=>T.sl 1 (l.map T.s)).length=cs.length:=qaa _
  repeat' (first|refine wkt ?_|refine zqp ?_|refine zab.exit ?_|exact wkc|intro hc|refine wk2 ?_ ?_|fail)
  apply TR.zaw 0 (g:=True) [(_,0,2),(_,0,1),(_,0,1),(_,0,1),(_,0,1),(_,0,0),(_,0,0),(_,0,0),(_,1,0),(_,1,1),(_,1,0),(_,2,2),(_,2,2),(.any,1,0)] [[setB a5,adB,axB,.tail ES.length,exB ES,ndB c (L5.map zaa) Q,.tail (L5.map zaa).length,.tail Q.length,kB (⟨.sl 6 (sts.map staT),tv.1,defs,nm3,nm4,(cs.map fun l=>T.sl 1 (l.map T.s)),[],[],[],[],[],[]⟩:Kt),.tail (⟨.sl 6 (sts.map staT),tv.1,defs,nm3,nm4,(cs.map fun l=>T.sl 1 (l.map T.s)),[],[],[],[],[],[]⟩:Kt).defs.length,.tail (⟨.sl 6 (sts.map staT),tv.1,defs,nm3,nm4,(cs.map fun l=>T.sl 1 (l.map T.s)),[],[],[],[],[],[]⟩:Kt).conds.length,.tail (⟨.sl 6 (sts.map staT),tv.1,defs,nm3,nm4,(cs.map fun l=>T.sl 1 (l.map T.s)),[],[],[],[],[],[]⟩:Kt).bodies.length,.tail (⟨.sl 6 (sts.map staT),tv.1,defs,nm3,nm4,(cs.map fun l=>T.sl 1 (l.map T.s)),[],[],[],[],[],[]⟩:Kt).parts.length,kx,.cells [.s m,.t (.sl 1 (tg.map T.s))],.tail (tg.map T.s).length],[setB a6,adB,axB,.tail ES.length,exB ES,ndB c (L6.map zaa) Q,.tail (L6.map zaa).length,.tail Q.length,kB (⟨.sl 6 (sts.map staT),tv.1,defs,nm3,nm4,(cs.map fun l=>T.sl 1 (l.map T.s)),[],[],[],[],[],[]⟩:Kt),.tail (⟨.sl 6 (sts.map staT),tv.1,defs,nm3,nm4,(cs.map fun l=>T.sl 1 (l.map T.s)),[],[],[],[],[],[]⟩:Kt).defs.length,.tail (⟨.sl 6 (sts.map staT),tv.1,defs,nm3,nm4,(cs.map fun l=>T.sl 1 (l.map T.s)),[],[],[],[],[],[]⟩:Kt).conds.length,.tail (⟨.sl 6 (sts.map staT),tv.1,defs,nm3,nm4,(cs.map fun l=>T.sl 1 (l.map T.s)),[],[],[],[],[],[]⟩:Kt).bodies.length,.tail (⟨.sl 6 (sts.map staT),tv.1,defs,nm3,nm4,(cs.map fun l=>T.sl 1 (l.map T.s)),[],[],[],[],[],[]⟩:Kt).parts.length,kx,.cells [.s m,.t (.sl 1 (tg.map T.s))],.tail (tg.map T.s).length,.tail x.unl.length],[setB a6,adB,axB,.tail ES.length,exB ES,ndB c (L6.map zaa) Q,.tail (L6.map zaa).length,.tail Q.length,kB (⟨.sl 6 (sts.map staT),tv.1,defs,nm3,nm4,(cs.map fun l=>T.sl 1 (l.map T.s)),[],[],[],[],[],[]⟩:Kt),.tail (⟨.sl 6 (sts.map staT),tv.1,defs,nm3,nm4,(cs.map fun l=>T.sl 1 (l.map T.s)),[],[],[],[],[],[]⟩:Kt).defs.length,.tail ((cs.map fun l=>T.sl 1 (l.map T.s)).length+1),.tail (⟨.sl 6 (sts.map staT),tv.1,defs,nm3,nm4,(cs.map fun l=>T.sl 1 (l.map T.s)),[],[],[],[],[],[]⟩:Kt).bodies.length,.tail (⟨.sl 6 (sts.map staT),tv.1,defs,nm3,nm4,(cs.map fun l=>T.sl 1 (l.map T.s)),[],[],[],[],[],[]⟩:Kt).parts.length,kx,.cells [.s m,.t (.sl 1 (tg.map T.s))],.tail (tg.map T.s).length,.tail x.unl.length],[setB a6,adB,axB,.tail ES.length,exB ES,ndB c (L6.map zaa) Q,.tail (L6.map zaa).length,.tail Q.length,kB (⟨.sl 6 (sts.map staT),tv.1,defs,nm3,nm4,((cs.map fun l=>T.sl 1 (l.map T.s))++[T.sl 1 (nm5.map T.s)]),[],[],[],[],[],[]⟩:Kt),.tail (⟨.sl 6 (sts.map staT),tv.1,defs,nm3,nm4,((cs.map fun l=>T.sl 1 (l.map T.s))++[T.sl 1 (nm5.map T.s)]),[],[],[],[],[],[]⟩:Kt).defs.length,.tail ((cs.map fun l=>T.sl 1 (l.map T.s)).length+1),.tail (⟨.sl 6 (sts.map staT),tv.1,defs,nm3,nm4,((cs.map fun l=>T.sl 1 (l.map T.s))++[T.sl 1 (nm5.map T.s)]),[],[],[],[],[],[]⟩:Kt).bodies.length,.tail (⟨.sl 6 (sts.map staT),tv.1,defs,nm3,nm4,((cs.map fun l=>T.sl 1 (l.map T.s))++[T.sl 1 (nm5.map T.s)]),[],[],[],[],[],[]⟩:Kt).parts.length,kx,.cells [.s m,.t (.sl 1 (tg.map T.s))],.tail (tg.map T.s).length,.tail x.unl.length]] hmix
  case hB=>exact zqv
  case h0=>exact rfl
  case hp=>
   repeat' (first|exact trivial|exact⟨⟨rfl,rfl⟩,trivial⟩|exact qaf rfl rfl|refine qaf (fun env=>?_) ?_|refine qaf ?_ ?_|refine wma ?_|(apply TO.zjG 14 c5;(iterate 3 exact rfl);exact zqb;(iterate 7 exact rfl))|(apply TO.zbb zag;(iterate 13 exact rfl);exact zqn;exact rfl)|refine wmk ?_|fail)
   done
  case hc=>exact rfl
  case hF=>exact rfl
  case hE=>exact rfl
  intro _
  repeat' (first|refine wkt ?_|refine zab.exit ?_|refine wk ?_|fail)
  refine zab.ziJ 16 hlt trivial rfl rfl ?_ (by(try dsimp only);rw[hn];rfl) rfl (by(try dsimp only);exact⟨rfl,rfl,rfl,rfl,trivial⟩)
  (try dsimp only);rw[hn];dsimp only;rw[qal,qae];rfl
 rw[qah]
 have hR7:=hCR sts.length
 have hL7:=hCL sts.length
 rw[qah]at hR7 hL7
 clear hCR hCL c3 c4
 generalize zb5 (a4,L4) sts=cj at*
 obtain⟨⟨a7,L7⟩,cs⟩:=cj
 dsimp only at*
 have c8:=zbg (a7,L7) (hR7.mono (by decide)) ES c Q (⟨.sl 6 (sts.map staT),tv.1,defs,nm3,nm4,(cs.map fun l=>T.sl 1 (l.map T.s)),[],[],[],[],[],[]⟩:Kt) (by dsimp only;omega) sNow (by decide) tv []
 have hR8:Room (locF sNow tv [] (a7,L7)).1.1 56:=Room.loc1 (s:=(a7,L7)) hR7 (by decide)
 have hL8:(locF sNow tv [] (a7,L7)).1.2.length=L7.length+1:=by simp[locF]
 generalize locF sNow tv [] (a7,L7)=w8 at*
 obtain⟨⟨a8,L8⟩,nm8⟩:=w8
 dsimp only at*
 repeat' (first|refine wkt ?_|refine zab.exit ?_|exact wkc|intro hc|refine wk2 ?_ ?_|fail)
 apply TR.zaw 0 (g:=True) [(_,0,1),(_,0,0),(_,0,0),(_,0,0),(_,0,0),(_,0,0),(_,1,0),(_,1,1),(_,1,1),(.any,1,0)] [[setB a7,adB,axB,.tail ES.length,exB ES,ndB c (L7.map zaa) Q,.tail (L7.map zaa).length,.tail Q.length,kB (⟨.sl 6 (sts.map staT),tv.1,defs,nm3,nm4,(cs.map fun l=>T.sl 1 (l.map T.s)),[],[],[],[],[],[]⟩:Kt),.tail (⟨.sl 6 (sts.map staT),tv.1,defs,nm3,nm4,(cs.map fun l=>T.sl 1 (l.map T.s)),[],[],[],[],[],[]⟩:Kt).defs.length,.tail (⟨.sl 6 (sts.map staT),tv.1,defs,nm3,nm4,(cs.map fun l=>T.sl 1 (l.map T.s)),[],[],[],[],[],[]⟩:Kt).conds.length,.tail (⟨.sl 6 (sts.map staT),tv.1,defs,nm3,nm4,(cs.map fun l=>T.sl 1 (l.map T.s)),[],[],[],[],[],[]⟩:Kt).bodies.length,.tail (⟨.sl 6 (sts.map staT),tv.1,defs,nm3,nm4,(cs.map fun l=>T.sl 1 (l.map T.s)),[],[],[],[],[],[]⟩:Kt).parts.length,kx,.cells [.s m,.t (.sl 1 (tg.map T.s))],.tail (tg.map T.s).length],[setB a8,adB,axB,.tail ES.length,exB ES,ndB c (L8.map zaa) Q,.tail (L8.map zaa).length,.tail Q.length,kB (⟨.sl 6 (sts.map staT),tv.1,defs,nm3,nm4,(cs.map fun l=>T.sl 1 (l.map T.s)),[],[],[],[],[],[]⟩:Kt),.tail (⟨.sl 6 (sts.map staT),tv.1,defs,nm3,nm4,(cs.map fun l=>T.sl 1 (l.map T.s)),[],[],[],[],[],[]⟩:Kt).defs.length,.tail (⟨.sl 6 (sts.map staT),tv.1,defs,nm3,nm4,(cs.map fun l=>T.sl 1 (l.map T.s)),[],[],[],[],[],[]⟩:Kt).conds.length,.tail (⟨.sl 6 (sts.map staT),tv.1,defs,nm3,nm4,(cs.map fun l=>T.sl 1 (l.map T.s)),[],[],[],[],[],[]⟩:Kt).bodies.length,.tail (⟨.sl 6 (sts.map staT),tv.1,defs,nm3,nm4,(cs.map fun l=>T.sl 1 (l.map T.s)),[],[],[],[],[],[]⟩:Kt).parts.length,kx,.cells [.s m,.t (.sl 1 (tg.map T.s))],.tail (tg.map T.s).length],[setB a8,adB,axB,.tail ES.length,exB ES,ndB c (L8.map zaa) Q,.tail (L8.map zaa).length,.tail Q.length,kB (⟨.sl 6 (sts.map staT),tv.1,defs,nm3,nm4,(cs.map fun l=>T.sl 1 (l.map T.s)),nm8,[],[],[],[],[]⟩:Kt),.tail (⟨.sl 6 (sts.map staT),tv.1,defs,nm3,nm4,(cs.map fun l=>T.sl 1 (l.map T.s)),nm8,[],[],[],[],[]⟩:Kt).defs.length,.tail (⟨.sl 6 (sts.map staT),tv.1,defs,nm3,nm4,(cs.map fun l=>T.sl 1 (l.map T.s)),nm8,[],[],[],[],[]⟩:Kt).conds.length,.tail (⟨.sl 6 (sts.map staT),tv.1,defs,nm3,nm4,(cs.map fun l=>T.sl 1 (l.map T.s)),nm8,[],[],[],[],[]⟩:Kt).bodies.length,.tail (⟨.sl 6 (sts.map staT),tv.1,defs,nm3,nm4,(cs.map fun l=>T.sl 1 (l.map T.s)),nm8,[],[],[],[],[]⟩:Kt).parts.length,kx,.cells [.s m,.t (.sl 1 (tg.map T.s))],.tail (tg.map T.s).length]] hmix
 case hB=>exact zqv
 case h0=>exact rfl
 case hp=>
  repeat' (first|exact trivial|exact⟨⟨rfl,rfl⟩,trivial⟩|exact qaf rfl rfl|refine qaf (fun env=>?_) ?_|refine qaf ?_ ?_|refine wma ?_|(apply TO.zaE 13 c8;(iterate 3 exact rfl);exact zqb;(iterate 8 exact rfl))|refine wmk ?_|fail)
  done
 case hc=>exact rfl
 case hF=>exact rfl
 case hE=>exact rfl
 intro _
 repeat' (first|refine wkt ?_|fail)
 have c9:=zbg (a8,L8) (hR8.mono (by decide)) ES c Q (⟨.sl 6 (sts.map staT),tv.1,defs,nm3,nm4,(cs.map fun l=>T.sl 1 (l.map T.s)),nm8,[],[],[],[],[]⟩:Kt) (by dsimp only;omega) zoh (by decide) bT []
 generalize locF zoh bT [] (a8,L8)=w9 at*
 obtain⟨⟨a9,L9⟩,nm9⟩:=w9
 dsimp only at*
 apply TR.zaw 0 (g:=True) [(_,0,1),(_,0,0),(_,1,0),(_,1,1),(_,1,1),(.any,1,0)] [[setB a8,adB,axB,.tail ES.length,exB ES,ndB c (L8.map zaa) Q,.tail (L8.map zaa).length,.tail Q.length,kB (⟨.sl 6 (sts.map staT),tv.1,defs,nm3,nm4,(cs.map fun l=>T.sl 1 (l.map T.s)),nm8,[],[],[],[],[]⟩:Kt),.tail (⟨.sl 6 (sts.map staT),tv.1,defs,nm3,nm4,(cs.map fun l=>T.sl 1 (l.map T.s)),nm8,[],[],[],[],[]⟩:Kt).defs.length,.tail (⟨.sl 6 (sts.map staT),tv.1,defs,nm3,nm4,(cs.map fun l=>T.sl 1 (l.map T.s)),nm8,[],[],[],[],[]⟩:Kt).conds.length,.tail (⟨.sl 6 (sts.map staT),tv.1,defs,nm3,nm4,(cs.map fun l=>T.sl 1 (l.map T.s)),nm8,[],[],[],[],[]⟩:Kt).bodies.length,.tail (⟨.sl 6 (sts.map staT),tv.1,defs,nm3,nm4,(cs.map fun l=>T.sl 1 (l.map T.s)),nm8,[],[],[],[],[]⟩:Kt).parts.length,kx,.cells [.s m,.t (.sl 1 (tg.map T.s))],.tail (tg.map T.s).length],[setB a9,adB,axB,.tail ES.length,exB ES,ndB c (L9.map zaa) Q,.tail (L9.map zaa).length,.tail Q.length,kB (⟨.sl 6 (sts.map staT),tv.1,defs,nm3,nm4,(cs.map fun l=>T.sl 1 (l.map T.s)),nm8,[],[],[],[],[]⟩:Kt),.tail (⟨.sl 6 (sts.map staT),tv.1,defs,nm3,nm4,(cs.map fun l=>T.sl 1 (l.map T.s)),nm8,[],[],[],[],[]⟩:Kt).defs.length,.tail (⟨.sl 6 (sts.map staT),tv.1,defs,nm3,nm4,(cs.map fun l=>T.sl 1 (l.map T.s)),nm8,[],[],[],[],[]⟩:Kt).conds.length,.tail (⟨.sl 6 (sts.map staT),tv.1,defs,nm3,nm4,(cs.map fun l=>T.sl 1 (l.map T.s)),nm8,[],[],[],[],[]⟩:Kt).bodies.length,.tail (⟨.sl 6 (sts.map staT),tv.1,defs,nm3,nm4,(cs.map fun l=>T.sl 1 (l.map T.s)),nm8,[],[],[],[],[]⟩:Kt).parts.length,kx,.cells [.s m,.t (.sl 1 (tg.map T.s))],.tail (tg.map T.s).length],[setB a9,adB,axB,.tail ES.length,exB ES,ndB c (L9.map zaa) Q,.tail (L9.map zaa).length,.tail Q.length,kB (⟨.sl 6 (sts.map staT),tv.1,defs,nm3,nm4,(cs.map fun l=>T.sl 1 (l.map T.s)),nm8,nm9,[],[],[],[]⟩:Kt),.tail (⟨.sl 6 (sts.map staT),tv.1,defs,nm3,nm4,(cs.map fun l=>T.sl 1 (l.map T.s)),nm8,nm9,[],[],[],[]⟩:Kt).defs.length,.tail (⟨.sl 6 (sts.map staT),tv.1,defs,nm3,nm4,(cs.map fun l=>T.sl 1 (l.map T.s)),nm8,nm9,[],[],[],[]⟩:Kt).conds.length,.tail (⟨.sl 6 (sts.map staT),tv.1,defs,nm3,nm4,(cs.map fun l=>T.sl 1 (l.map T.s)),nm8,nm9,[],[],[],[]⟩:Kt).bodies.length,.tail (⟨.sl 6 (sts.map staT),tv.1,defs,nm3,nm4,(cs.map fun l=>T.sl 1 (l.map T.s)),nm8,nm9,[],[],[],[]⟩:Kt).parts.length,kx,.cells [.s m,.t (.sl 1 (tg.map T.s))],.tail (tg.map T.s).length]] hmix
 case hB=>exact zqv
 case h0=>exact rfl
 case hp=>
  repeat' (first|exact trivial|exact⟨⟨rfl,rfl⟩,trivial⟩|exact qaf rfl rfl|refine qaf (fun env=>?_) ?_|refine qaf ?_ ?_|refine wma ?_|(apply TO.zaE 13 c9;(iterate 3 exact rfl);exact zqb;(iterate 8 exact rfl))|refine wmk ?_|fail)
  done
 case hc=>exact rfl
 case hF=>exact rfl
 case hE=>exact rfl
 intro _
 repeat' (first|refine wkt ?_|refine wk ?_|fail)
 exact RetK.ziH 13 rfl (Le.refl _) rfl rfl rfl rfl rfl ⟨rfl,rfl⟩
end Go.Proofs.YtpnnpgbaiobbjaaGreatDoor
