import Derived.Test.YthmbhfgflijapaaGreatDoorPk22
set_option linter.all false
namespace Go.Proofs.YthmbhfgflijapaaGreatDoor
open Go Go.TL
attribute [local irreducible] TR TO Then zag RetK Sound zab Kf GG zaK
abbrev Tk:=Int×Str
def isL:List Tk->Str->Bool
 | t::_,s=>(decide (t.1=3) || decide (t.1=4)) && decide (t.2=s)
 | [],_=>false
def kiL:List Tk->Int->Bool
 | t::_,k=>decide (t.1=k)
 | [],_=>false
def txL:List Tk->Str
 | t::_=>t.2
 | []=>[]
def opLv(n:Nat)(L:List Tk):Option Int:=if(kiL L 3 || kiL L 4)=true then zhF n (txL L) else none
def At(R:Rd)(i:Nat)(L:List Tk):Prop:=R.K.drop i=L
theorem At.get{R:Rd}{i:Nat}{L:List Tk}(h:At R i L):R.K[i]?=L[0]? :=by
 rw[<-h,qa6];rfl
theorem At.isAt{R:Rd}{i:Nat}{L:List Tk}(h:At R i L)(s:Str):R.isAt i s=isL L s:=by
 unfold Rd.isAt;rw[h.get];cases L <;> rfl
theorem At.kind{R:Rd}{i:Nat}{L:List Tk}(h:At R i L)(k:Int):R.kind i k=kiL L k:=by
 unfold Rd.kind;rw[h.get];cases L <;> rfl
theorem At.txt{R:Rd}{i:Nat}{L:List Tk}(h:At R i L):R.txt i=txL L:=by
 unfold Rd.txt;rw[h.get];cases L <;> rfl
theorem At.oper{R:Rd}{i:Nat}{L:List Tk}(h:At R i L)(n:Nat):R.oper n i=opLv n L:=by
 unfold Rd.oper opLv;rw[h.kind,h.kind,h.txt]
theorem At.tl{R:Rd}{i:Nat}{t:Tk}{L:List Tk}(h:At R i (t::L)):At R (i+1) L:=by
 have h2:=congrArg (List.drop 1) h
 rw[qbP]at h2
 exact h2
theorem At.app{R:Rd}:∀ {A:List Tk} {i:Nat} {L:List Tk},At R i (A++L)->At R (i+A.length) L
 | [],_,_,h=>h
 | t::A,i,L,h=>by
   have:=At.app (A:=A) (At.tl h)
   rw[qal,show i+(A.length+1)=i+1+A.length by omega];exact this
theorem At.len{R:Rd}{i:Nat}{L:List Tk}(h:At R i L):L.length≤R.K.length:=by
 rw[<-h,qaZ];omega
theorem At.neg{R:Rd}{i:Nat}{t:Tk}{L:List Tk}(h:At R i (t::L)):R.neg i=(isL (t::L) [45] && kiL L 2):=by
 unfold Rd.neg;rw[h.isAt,h.tl.kind]
theorem zcX{T L:List Tk}(h:T≠ [])(s:Str):isL (T++L) s=isL T s:=by
 cases T with
 | nil=>exact absurd rfl h
 | cons t T=>rfl
abbrev zgc:Tk:=(3,[116,114,117,101])
abbrev zdH:Tk:=(3,[102,97,108,115,101])
abbrev tL:Tk:=(4,[40])
abbrev tR:Tk:=(4,[41])
abbrev tArr:Tk:=(4,[45,62])
abbrev znF:Tk:=(4,[44])
abbrev zer:Tk:=(4,[45])
abbrev zlk:Tk:=(3,[119,104,101,110])
abbrev zlj:Tk:=(3,[101,118,101,114,121])
abbrev tIf:Tk:=(3,[105,102])
abbrev zoM:Tk:=(3,[116,104,101,110])
abbrev zoL:Tk:=(3,[101,108,115,101])
abbrev zfJ:Tk:=(3,[109,101,114,103,101])
abbrev tPre:Tk:=(3,[112,114,101])
abbrev tNot:Tk:=(3,[110,111,116])
abbrev tFby:Tk:=(3,[102,98,121])
abbrev zwT:Tk:=(4,[59])
abbrev zwS:Tk:=(3,[99,111,110,116,105,110,117,101])
structure EndO (L:List Tk):Prop where
 every:isL L [101,118,101,114,121]=false
 br:isL L [40]=false
structure EndU (L:List Tk):Prop extends EndO L where
 whn:isL L [119,104,101,110]=false
structure EndE (L:List Tk):Prop extends EndU L where
 op:∀n,opLv n L=none
 arr:isL L [45,62]=false
 fby:isL L [102,98,121]=false
theorem znu{s:Str}(h:s ∉ ([[111,114],[120,111,114],[97,110,100],[61],[60,62],[60],[60,61],[62],[62,61],[43],[45],[42],[47],[109,111,100]]:List Str))(n:Nat):zhF n s=none:=by
 simp only[qa2,qbN,or_false,not_or]at h
 obtain⟨h1,h2,h3,h4,h5,h6,h7,h8,h9,h10,h11,h12,h13,h14⟩:=h
 unfold zhF
 simp only[if_neg h1,if_neg h2,if_neg h3,if_neg h4,if_neg h5,if_neg h6,if_neg h7,if_neg h8,if_neg h9,if_neg h10,if_neg h11,if_neg h12,if_neg h13,if_neg h14,ite_self]
theorem EndE.nil:EndE []:=⟨⟨⟨rfl,rfl⟩,rfl⟩,fun _=>rfl,rfl,rfl⟩
theorem EndE.cons{t:Tk}{L:List Tk}(h:t∈([tR,znF,zoM,zoL,zwT,zwS]:List Tk)):EndE (t::L):=by
 simp only[qa2,qbN,or_false]at h
 rcases h with rfl|rfl|rfl|rfl|rfl|rfl <;>
  exact⟨⟨⟨rfl,rfl⟩,rfl⟩,fun n=>by(unfold opLv;simp only[txL];split;exact znu (by decide) n;rfl),rfl,rfl⟩
structure St (T:List Tk):Prop where
 ne:T≠ []
 mi:isL T [45]=false
 nt:isL T [110,111,116]=false
 pr:isL T [112,114,101]=false
def PE(R:Rd)(e:Ex)(T:List Tk):Prop:=∀n i L,10*T.length+10≤n->At R i (T++L)->EndE L->pF R n .expr i= .ok e (i+T.length)
def PQ(R:Rd)(e:Ex)(T:List Tk):Prop:=St T/\∀n i L,10*T.length+1≤n->At R i (T++L)->EndE L->pF R n .prim i= .ok e (i+T.length)
def PO(R:Rd)(e:Ex)(T:List Tk):Prop:=St T/\∀n i L,10*T.length+1≤n->At R i (T++L)->EndO L->pF R n .prim i= .ok e (i+T.length)
theorem PO.pq{R:Rd}{e:Ex}{T:List Tk}(h:PO R e T):PQ R e T:=⟨h.1,fun n i L hn ha he=>h.2 n i L hn ha he.toEndO⟩
theorem St.len{T:List Tk}(h:St T):1≤T.length:=qba.2 h.ne
theorem At.pos{R:Rd}{i:Nat}{T L:List Tk}(h:At R i (T++L))(hT:1≤T.length):∃k,R.K.length=k+1:=by
 have:=h.len
 rw[qad]at this
 exact⟨R.K.length-1,by omega⟩
theorem zq2{R:Rd}{e:Ex}{T L:List Tk}{n i j:Nat}(hs:St T)(ha:At R i (T++L))(h:pF R n .prim i= .ok e j)(hw:R.isAt j [119,104,101,110]=false):pF R (n+1) .unary i= .ok e j:=by
 obtain⟨k,hk⟩:=ha.pos hs.len
 have h1:R.isAt i [45]=false:=by rw[ha.isAt,zcX hs.ne,hs.mi]
 have h2:R.isAt i [112,114,101]=false:=by rw[ha.isAt,zcX hs.ne,hs.pr]
 rw[pF,if_neg (by rw[h1];simp),if_neg (by rw[h2];simp),h,hk]
 show R.whens (k+1) e j=_
 rw[Rd.whens,if_neg (by rw[hw];simp)]
theorem PO.un{R:Rd}{e:Ex}{T L:List Tk}{n i:Nat}(h:PO R e T)(hn:10*T.length+2≤n)(ha:At R i (T++L))(he:EndU L):pF R n .unary i= .ok e (i+T.length):=by
 obtain⟨m,rfl⟩:∃m,n=m+1:=⟨n-1,by omega⟩
 exact zq2 h.1 ha (h.2 m i L (by omega) ha he.toEndO) (by rw[ha.app.isAt,he.whn])
theorem PQ.un{R:Rd}{e:Ex}{T L:List Tk}{n i:Nat}(h:PQ R e T)(hn:10*T.length+2≤n)(ha:At R i (T++L))(he:EndE L):pF R n .unary i= .ok e (i+T.length):=by
 obtain⟨m,rfl⟩:∃m,n=m+1:=⟨n-1,by omega⟩
 exact zq2 h.1 ha (h.2 m i L (by omega) ha he) (by rw[ha.app.isAt,he.whn])
theorem zgP{R:Rd}{a:Ex}{i j n0 p:Nat}(hp:p≤6)(hK:1≤R.K.length)(hnot:R.isAt i [110,111,116]=false)(h:∀m,n0≤m->pF R m (.level p) i= .ok a j):
  ∀(d q:Nat),q+d=p->(∀k,q≤k->k<p->R.oper k j=none)->∀m,n0+d≤m->pF R m (.level q) i= .ok a j
 | 0,q,hq,_,m,hm=>by
   have:q=p:=by omega
   subst this
   exact h m (by omega)
 | d+1,q,hq,ho,m,hm=>by
   have ih:=zgP hp hK hnot h d (q+1) (by omega) (fun k h1 h2=>ho k (by omega) h2) (m-1) (by omega)
   obtain⟨m,rfl⟩:∃m',m=m'+1:=⟨m-1,by omega⟩
   rw[Nat.add_sub_cancel]at ih
   rw[pF]
   by_cases h2:q=2
   ·subst h2
    rw[if_pos rfl,if_neg (by rw[hnot];simp)]
    exact ih
   ·rw[if_neg h2,if_neg (by omega),ih]
    obtain⟨k,hk⟩:∃k,R.K.length=k+1:=⟨R.K.length-1,by omega⟩
    show R.ops _ q R.K.length a j=_
    rw[hk,Rd.ops,ho q (qae _) (by omega)]
theorem lev6{R:Rd}{a:Ex}{i j n0:Nat}(h:∀m,n0≤m->pF R m .unary i= .ok a j):∀m,n0+1≤m->pF R m (.level 6) i= .ok a j:=by
 intro m hm
 obtain⟨m,rfl⟩:∃m',m=m'+1:=⟨m-1,by omega⟩
 rw[pF,if_neg (by decide),if_pos rfl]
 exact h m (by omega)
theorem ztZ{R:Rd}{a:Ex}{i j n0:Nat}(h:∀m,n0≤m->pF R m (.level 0) i= .ok a j)(h1:R.isAt j [45,62]=false)(h2:R.isAt j [102,98,121]=false):∀m,n0+1≤m->pF R m .expr i= .ok a j:=by
 intro m hm
 obtain⟨m,rfl⟩:∃m',m=m'+1:=⟨m-1,by omega⟩
 rw[pF,h m (by omega)]
 show(if R.isAt j [45,62]=true then _ else if R.isAt j [102,98,121]=true then _ else _)=_
 rw[h1,h2];rfl
theorem zdO{R:Rd}{a:Ex}{i n0 p:Nat}{T L:List Tk}(hp:p≤6)(hT:1≤T.length)(ha:At R i (T++L))(he:EndE L)(hnot:p≤2\/isL T [110,111,116]=false)
  (h:∀m,n0≤m->pF R m (.level p) i= .ok a (i+T.length)):∀m,n0+p+1≤m->pF R m .expr i= .ok a (i+T.length):=by
 obtain⟨k,hk⟩:=ha.pos hT
 have ho:∀k,R.oper k (i+T.length)=none:=fun k=>by rw[ha.app.oper,he.op]
 have hne:T≠ []:=qba.1 hT
 refine ztZ (n0:=n0+p) ?_ (by rw[ha.app.isAt,he.arr]) (by rw[ha.app.isAt,he.fby])
 rcases hnot with h2|h2
 ·match p,h2,h with
  | 0,_,h=>exact h
  | 1,_,h=>
    intro m hm
    obtain⟨m,rfl⟩:∃m',m=m'+1:=⟨m-1,by omega⟩
    rw[pF,if_neg (by decide),if_neg (by decide),h m (by omega),hk]
    show R.ops _ 0 (k+1) a _=_
    rw[Rd.ops,ho]
  | 2,_,h=>
    intro m hm
    obtain⟨m,rfl⟩:∃m',m=m'+2:=⟨m-2,by omega⟩
    rw[pF,if_neg (by decide),if_neg (by decide),pF,if_neg (by decide),if_neg (by decide),h m (by omega),hk]
    show(R.ops _ 1 (k+1) a _).bind _=_
    rw[Rd.ops,ho]
    show R.ops _ 0 (k+1) a _=_
    rw[Rd.ops,ho]
 ·exact zgP hp (by omega) (by rw[ha.isAt,zcX hne,h2]) h p 0 (by omega) (fun k _ _=>ho k)
theorem PQ.pe{R:Rd}{e:Ex}{T:List Tk}(h:PQ R e T):PE R e T:=fun n i L hn ha he=>
 zdO (p:=6) (n0:=10*T.length+3) (qae _) h.1.len ha he (.inr h.1.nt) (lev6 fun m hm=>h.un hm ha he) n (by omega)
theorem PO.pe{R:Rd}{e:Ex}{T:List Tk}(h:PO R e T):PE R e T:=h.pq.pe
theorem PO.lev{R:Rd}{e:Ex}{T L:List Tk}{i q:Nat}(h:PO R e T)(ha:At R i (T++L))(he:EndU L)(hq:q≤6)(ho:∀k,q≤k->opLv k L=none):∀m,10*T.length+9≤m->pF R m (.level q) i= .ok e (i+T.length):=by
 intro m hm
 obtain⟨k,hk⟩:=ha.pos h.1.len
 exact zgP (p:=6) (n0:=10*T.length+3) (qae _) (by omega) (by rw[ha.isAt,zcX h.1.ne,h.1.nt]) (lev6 fun m hm=>h.un hm ha he) (6-q) q (by omega) (fun k h1 _=>by rw[ha.app.oper,ho k h1]) m (by omega)
end Go.Proofs.YthmbhfgflijapaaGreatDoor
namespace Go.Proofs.YthmbhfgflijapaaGreatDoor
open Go Go.TL
attribute [local irreducible] TR TO Then zag RetK Sound zab Kf GG zaK
theorem zgv{x:I64}{n:Int}(h:x.1=n):toI n=x:=by
 subst h
 obtain⟨x,h1,h2⟩:=x
 unfold toI
 rw[dif_pos ⟨h1,h2⟩]
theorem zck{k o t v:I64}{s:Str}{l:List Ex}{a b c d:Int}(h1:k.1=a)(h2:o.1=b)(h3:t.1=c)(h4:v.1=d):mkE a b c d s l= .mk k o t v s l:=by
 unfold mkE;rw[zgv h1,zgv h2,zgv h3,zgv h4]
variable {R:Rd}{k o t v:I64}{s:Str}
theorem rInt{d:Str}(hk:k.1=1)(ho:o.1=0)(ht:t.1=2)(hd:numV d=v.1)(hv:v.1≤32767):PO R (.mk k o t v [] []) [(2,d)]:=by
 refine⟨⟨by simp,rfl,rfl,rfl⟩,fun n i L hn ha he=>?_⟩
 obtain⟨m,rfl⟩:∃m,n=m+1:=⟨n-1,by omega⟩
 have ha:At R i ((2,d)::L):=ha
 rw[pF,Rd.prim,if_neg (by rw[ha.neg];simp[isL]),if_neg (by rw[ha.isAt];simp[isL]),if_pos (by rw[ha.kind];rfl),ha.txt,if_neg (by show ¬(32767<numV d);omega)]
 show PR.ok (mkE 1 0 2 (numV d) [] []) (i+1)=_
 rw[zck hk ho ht hd.symm];rfl
theorem zvI{d:Str}(hk:k.1=1)(ho:o.1=0)(ht:t.1=2)(hd:-numV d=v.1):PE R (.mk k o t v [] []) [zer,(2,d)]:=by
 intro n i L hn ha he
 have ha0:At R i (zer::(2,d)::L):=ha
 have hneg:R.neg i=true:=by rw[ha0.neg];rfl
 refine zdO (p:=6) (n0:=3) (qae _) (by simp) ha he (.inr rfl) (lev6 (n0:=2) fun m hm=>?_) n (by simp at hn;omega)
 obtain⟨m,rfl⟩:∃m',m=m'+2:=⟨m-2,by omega⟩
 obtain⟨q,hq⟩:=ha.pos (by simp)
 rw[pF,if_neg (by rw[hneg];simp),if_neg (by rw[hneg];simp),pF,Rd.prim,if_pos hneg,ha0.tl.txt,hq]
 show R.whens (q+1) (mkE 1 0 2 (-numV d) [] []) (i+2)=_
 rw[Rd.whens,if_neg (by rw[show R.isAt (i+2) [119,104,101,110]=false from((At.app (A:=[zer,(2,d)]) ha).isAt _).trans he.whn];simp),zck hk ho ht hd.symm];rfl
theorem zwN(hk:k.1=1)(ho:o.1=0)(ht:t.1=1)(hv:v.1=1):PO R (.mk k o t v [] []) [zgc]:=by
 refine⟨⟨by simp,rfl,rfl,rfl⟩,fun n i L hn ha he=>?_⟩
 obtain⟨m,rfl⟩:∃m,n=m+1:=⟨n-1,by omega⟩
 have ha:At R i (zgc::L):=ha
 rw[pF,Rd.prim,if_neg (by rw[ha.neg];simp[isL]),if_neg (by rw[ha.isAt];simp[isL]),if_neg (by rw[ha.kind];simp[kiL]),if_neg (by rw[ha.kind];simp[kiL]),if_pos (by rw[ha.isAt];rfl),zck hk ho ht hv];rfl
theorem zvG(hk:k.1=1)(ho:o.1=0)(ht:t.1=1)(hv:v.1=0):PO R (.mk k o t v [] []) [zdH]:=by
 refine⟨⟨by simp,rfl,rfl,rfl⟩,fun n i L hn ha he=>?_⟩
 obtain⟨m,rfl⟩:∃m,n=m+1:=⟨n-1,by omega⟩
 have ha:At R i (zdH::L):=ha
 rw[pF,Rd.prim,if_neg (by rw[ha.neg];simp[isL]),if_neg (by rw[ha.isAt];simp[isL]),if_neg (by rw[ha.kind];simp[kiL]),if_neg (by rw[ha.kind];simp[kiL]),if_neg (by rw[ha.isAt];simp[isL]),if_pos (by rw[ha.isAt];rfl),zck hk ho ht hv];rfl
theorem zwP(hk:k.1=11)(ho:o.1=0)(ht:t.1=0)(hv:v.1=0):PO R (.mk k o t v s []) [(5,s)]:=by
 refine⟨⟨by simp,rfl,rfl,rfl⟩,fun n i L hn ha he=>?_⟩
 obtain⟨m,rfl⟩:∃m,n=m+1:=⟨n-1,by omega⟩
 have ha:At R i ((5,s)::L):=ha
 rw[pF,Rd.prim,if_neg (by rw[ha.neg];simp[isL]),if_neg (by rw[ha.isAt];simp[isL]),if_neg (by rw[ha.kind];simp[kiL]),if_pos (by rw[ha.kind];rfl),ha.txt]
 show PR.ok (mkE 11 0 0 0 s []) (i+1)=_
 rw[zck hk ho ht hv];rfl
theorem zdX{L:List Tk}{i m:Nat}(ha:At R i ((1,s)::L)):pF R (m+1) .prim i=if isL L [40]=true then R.call (pF R m .expr) (pF R m .prim) s (i+1+1) else match R.tag s with
  | some tv=>.ok (mkE 1 0 tv.1 tv.2 [] []) (i+1)
  | none=>.ok (mkE 2 0 0 0 s []) (i+1):=by
 rw[pF,Rd.prim,if_neg (by rw[ha.neg];simp[isL])]
 iterate 8 rw[if_neg (by first|(rw[ha.isAt];simp[isL];done)|(rw[ha.kind];simp[kiL];done))]
 rw[Rd.ident,Rd.id,if_pos (by rw[ha.kind];rfl),ha.txt]
 show(if R.isAt (i+1) [40]=true then R.call _ _ s (i+1+1) else _)=_
 rw[ha.tl.isAt];rfl
theorem rTag{t' v':Nat}(hk:k.1=1)(ho:o.1=0)(ht:t.1=t')(hv:v.1=v')(hs:R.tag s=some (t',v')):PO R (.mk k o t v [] []) [(1,s)]:=by
 refine⟨⟨by simp,rfl,rfl,rfl⟩,fun n i L hn ha he=>?_⟩
 obtain⟨m,rfl⟩:∃m,n=m+1:=⟨n-1,by omega⟩
 rw[zdX (L:=L) ha,if_neg (by rw[he.br];simp),hs]
 show PR.ok (mkE 1 0 t' v' [] []) (i+1)=_
 rw[zck hk ho ht hv];rfl
theorem rVar(hk:k.1=2)(ho:o.1=0)(ht:t.1=0)(hv:v.1=0)(hs:R.tag s=none):PO R (.mk k o t v s []) [(1,s)]:=by
 refine⟨⟨by simp,rfl,rfl,rfl⟩,fun n i L hn ha he=>?_⟩
 obtain⟨m,rfl⟩:∃m,n=m+1:=⟨n-1,by omega⟩
 rw[zdX (L:=L) ha,if_neg (by rw[he.br];simp),hs]
 show PR.ok (mkE 2 0 0 0 s []) (i+1)=_
 rw[zck hk ho ht hv];rfl
theorem zjz{t:Tk}{L:List Tk}{i:Nat}{w:Str}(ha:At R i (t::L))(hw:isL (t::L) w=true):R.must [w] i= .ok () (i+1):=by
 rw[Rd.must,if_pos (by rw[ha.isAt,hw]),Rd.must]
theorem rBr{e:Ex}{T:List Tk}(h:PE R e T):PO R e (tL::(T++[tR])):=by
 refine⟨⟨by simp,rfl,rfl,rfl⟩,fun n i L hn ha he=>?_⟩
 obtain⟨m,rfl⟩:∃m,n=m+1:=⟨n-1,by omega⟩
 have ha:At R i (tL::(T++(tR::L))):=by simpa using ha
 have h1:=h m (i+1) (tR::L) (by simp at hn;omega) ha.tl (EndE.cons (by simp))
 rw[pF,Rd.prim,if_neg (by rw[ha.neg];simp[isL])]
 iterate 5 rw[if_neg (by first|(rw[ha.isAt];simp[isL];done)|(rw[ha.kind];simp[kiL];done))]
 rw[if_pos (by rw[ha.isAt];rfl),h1]
 show(R.must [[41]] (i+1+T.length)).bind _=_
 rw[zjz (t:=tR) (L:=L) ha.tl.app rfl]
 show PR.ok e (i+1+T.length+1)=_
 congr 1
 simp;omega
theorem rNot{a:Ex}{A:List Tk}(h:PO R a A)(hk:k.1=3)(ho:o.1=1)(ht:t.1=0)(hv:v.1=0):PE R (.mk k o t v [] [a]) (tNot::A):=by
 intro n i L hn ha he
 refine zdO (p:=2) (n0:=10*A.length+10) (by decide) (by simp) ha he (.inl (qae _)) (fun m hm=>?_) n (by simp at hn;omega)
 obtain⟨m,rfl⟩:∃m',m=m'+1:=⟨m-1,by omega⟩
 have ha:At R i (tNot::(A++L)):=ha
 rw[pF,if_pos rfl,if_pos (by rw[ha.isAt];rfl),h.lev ha.tl he.toEndU (by decide) (fun k _=>he.op k) m (by omega)]
 show PR.ok (mkE 3 1 0 0 [] [a]) _=_
 rw[zck hk ho ht hv]
 congr 1
 simp;omega
theorem rNeg{a:Ex}{A:List Tk}(h:PO R a A)(h2:kiL A 2=false)(hk:k.1=3)(ho:o.1=2)(ht:t.1=0)(hv:v.1=0):PE R (.mk k o t v [] [a]) (zer::A):=by
 intro n i L hn ha he
 refine zdO (p:=6) (n0:=10*A.length+4) (qae _) (by simp) ha he (.inr rfl) (lev6 (n0:=10*A.length+3) fun m hm=>?_) n (by simp at hn;omega)
 obtain⟨m,rfl⟩:∃m',m=m'+1:=⟨m-1,by omega⟩
 have ha:At R i (zer::(A++L)):=ha
 have hneg:R.neg i=false:=by
  rw[ha.neg]
  have:kiL (A++L) 2=kiL A 2:=by
   have:=h.1.ne
   cases A with
   | nil=>exact absurd rfl this
   | cons x A=>rfl
  rw[this,h2];simp
 rw[pF,if_pos ⟨hneg,by rw[ha.isAt];rfl⟩,h.un (by omega) ha.tl he.toEndU]
 show PR.ok (mkE 3 2 0 0 [] [a]) _=_
 rw[zck hk ho ht hv]
 congr 1
 simp;omega
theorem rPre{a:Ex}{A:List Tk}(h:PO R a A)(hk:k.1=5)(ho:o.1=0)(ht:t.1=0)(hv:v.1=0):PE R (.mk k o t v [] [a]) (tPre::A):=by
 intro n i L hn ha he
 refine zdO (p:=6) (n0:=10*A.length+4) (qae _) (by simp) ha he (.inr rfl) (lev6 (n0:=10*A.length+3) fun m hm=>?_) n (by simp at hn;omega)
 obtain⟨m,rfl⟩:∃m',m=m'+1:=⟨m-1,by omega⟩
 have ha:At R i (tPre::(A++L)):=ha
 have hneg:R.neg i=false:=by rw[ha.neg];simp[isL]
 rw[pF,if_neg (by rw[ha.isAt];simp[isL]),if_pos ⟨hneg,by rw[ha.isAt];rfl⟩,h.un (by omega) ha.tl he.toEndU]
 show PR.ok (mkE 5 0 0 0 [] [a]) _=_
 rw[zck hk ho ht hv]
 congr 1
 simp;omega
structure OpW (w:Tk) (p:Nat) (o:Int):Prop where
 lv:p=0\/p=1\/p=3\/p=4\/p=5
 me:∀L,opLv p (w::L)=some o
 no:∀q L,q<6->p<q->opLv q (w::L)=none\/q=2
 u:∀L,EndU (w::L)
theorem rBin{a b:Ex}{A B:List Tk}{w:Tk}{p:Nat}(ha':PO R a A)(hb':PO R b B)(hw:OpW w p o.1)(hk:k.1=3)(ht:t.1=0)(hv:v.1=0):PE R (.mk k o t v [] [a,b]) (A++w::B):=by
 intro n i L hn ha he
 have hp6:p<6:=by have:=hw.lv;omega
 have hp2:p≠2:=by have:=hw.lv;omega
 have h1:1≤(A++w::B).length:=by simp;omega
 obtain⟨q,hq⟩:∃q,R.K.length=q+2:=by
  have:=ha.len
  have:=ha'.1.len
  simp only[qad,qal]at*
  exact⟨R.K.length-2,by omega⟩
 have ha2:At R i (A++(w::(B++L))):=by simpa using ha
 have hl:(A++w::B).length=A.length+1+B.length:=by simp;omega
 refine zdO (p:=p) (n0:=10*A.length+10*B.length+10) (by omega) h1 ha he (.inr (by rw[zcX ha'.1.ne,ha'.1.nt])) (fun m hm=>?_) n (by rw[hl]at hn;omega)
 obtain⟨m,rfl⟩:∃m',m=m'+1:=⟨m-1,by omega⟩
 have hq':∀k,p+1≤k->k<6->R.oper k (i+A.length)=none\/k=2:=fun k h1 h2=>by
  rw[ha2.app.oper]
  exact hw.no k (B++L) h2 (by omega)
 have hA:pF R m (.level (p+1)) i= .ok a (i+A.length):=by
  have h6:=lev6 (n0:=10*A.length+2) fun m hm=>ha'.un (R:=R) (L:=w::(B++L)) hm ha2 (hw.u _)
  have hnot:R.isAt i [110,111,116]=false:=by rw[ha2.isAt,zcX ha'.1.ne,ha'.1.nt]
  have hst:∀q n0,q≠2->q<6->R.oper q (i+A.length)=none->(∀m,n0≤m->pF R m (.level (q+1)) i= .ok a (i+A.length))->∀m,n0+1≤m->pF R m (.level q) i= .ok a (i+A.length):=by
   intro q' n0 h1 h2 h3 h4
   exact zgP (p:=q'+1) (by omega) (by omega) hnot h4 1 q' rfl (fun k g1 g2=>(show q'=k by omega) ▸ h3)
  have hst2:∀n0,(∀m,n0≤m->pF R m (.level 3) i= .ok a (i+A.length))->∀m,n0+1≤m->pF R m (.level 2) i= .ok a (i+A.length):=by
   intro n0 h4 m hm
   obtain⟨m,rfl⟩:∃m',m=m'+1:=⟨m-1,by omega⟩
   rw[pF,if_pos rfl,if_neg (by rw[hnot];simp)]
   exact h4 m (by omega)
  have hno:∀k,p+1≤k->k<6->k≠2->R.oper k (i+A.length)=none:=fun k h1 h2 h3=>(hq' k h1 h2).resolve_right h3
  have e6:=h6
  rcases hw.lv with h|h|h|h|h <;> subst h
  ·exact hst 1 _ (by decide) (by decide) (hno 1 (by decide) (by decide) (by decide)) (hst2 _ (hst 3 _ (by decide) (by decide) (hno 3 (by decide) (by decide) (by decide)) (hst 4 _ (by decide) (by decide) (hno 4 (by decide) (by decide) (by decide)) (hst 5 _ (by decide) (by decide) (hno 5 (by decide) (by decide) (by decide)) e6)))) m (by omega)
  ·exact hst2 _ (hst 3 _ (by decide) (by decide) (hno 3 (by decide) (by decide) (by decide)) (hst 4 _ (by decide) (by decide) (hno 4 (by decide) (by decide) (by decide)) (hst 5 _ (by decide) (by decide) (hno 5 (by decide) (by decide) (by decide)) e6))) m (by omega)
  ·exact hst 4 _ (by decide) (by decide) (hno 4 (by decide) (by decide) (by decide)) (hst 5 _ (by decide) (by decide) (hno 5 (by decide) (by decide) (by decide)) e6) m (by omega)
  ·exact hst 5 _ (by decide) (by decide) (hno 5 (by decide) (by decide) (by decide)) e6 m (by omega)
  ·exact e6 m (by omega)
 have hB:pF R m (.level (p+1)) (i+A.length+1)= .ok b (i+A.length+1+B.length):=
  hb'.lev ha2.app.tl he.toEndU (by omega) (fun k _=>he.op k) m (by omega)
 have hend:∀k,R.oper k (i+A.length+1+B.length)=none:=fun k=>by rw[ha2.app.tl.app.oper,he.op]
 rw[pF,if_neg hp2,if_neg (by omega),hA]
 show R.ops _ p R.K.length a (i+A.length)=_
 rw[hq,Rd.ops,ha2.app.oper,hw.me]
 show(pF R m (.level (p+1)) (i+A.length+1)).bind _=_
 rw[hB]
 show(if p=3 then PR.ok (mkE 3 o.1 0 0 [] [a,b]) (i+A.length+1+B.length) else R.ops _ p (q+1) (mkE 3 o.1 0 0 [] [a,b]) (i+A.length+1+B.length))=_
 rw[Rd.ops,hend,ite_self,zck hk rfl ht hv,hl]
 congr 1
 omega
theorem rSeq{a b:Ex}{A B:List Tk}{w:Tk}(ha':PO R a A)(hb':PO R b B)(hw:w=tArr/\k.1=6\/w=tFby/\k.1=7)(ho:o.1=0)(ht:t.1=0)(hv:v.1=0):PE R (.mk k o t v [] [a,b]) (A++w::B):=by
 intro n i L hn ha he
 have ha2:At R i (A++(w::(B++L))):=by simpa using ha
 have hl:(A++w::B).length=A.length+1+B.length:=by simp;omega
 rw[hl]at hn⊢
 obtain⟨m,rfl⟩:∃m',n=m'+1:=⟨n-1,by omega⟩
 have hu:EndU (w::(B++L)):=by
  rcases hw with ⟨rfl,_⟩|⟨rfl,_⟩ <;> exact⟨⟨rfl,rfl⟩,rfl⟩
 have hno:∀k,opLv k (w::(B++L))=none:=fun k=>by
  rcases hw with ⟨rfl,_⟩|⟨rfl,_⟩ <;> (unfold opLv;simp only[txL];split;exact znu (by decide) k;rfl)
 have hB:=hb'.pe m (i+A.length+1) L (by omega) ha2.app.tl he
 rw[pF,ha'.lev ha2 hu (by decide) (fun k _=>hno k) m (by omega)]
 show(if R.isAt (i+A.length) [45,62]=true then(pF R m .expr (i+A.length+1)).bind _ else if R.isAt (i+A.length) [102,98,121]=true then(pF R m .expr (i+A.length+1)).bind _ else _)=_
 rw[ha2.app.isAt,ha2.app.isAt,hB]
 rcases hw with ⟨rfl,hk⟩|⟨rfl,hk⟩
 ·rw[if_pos (show isL (tArr::(B++L)) [45,62]=true from rfl)]
  show PR.ok (mkE 6 0 0 0 [] [a,b]) _=_
  rw[zck hk ho ht hv];congr 1;omega
 ·rw[if_neg (by simp[isL]),if_pos (show isL (tFby::(B++L)) [102,98,121]=true from rfl)]
  show PR.ok (mkE 7 0 0 0 [] [a,b]) _=_
  rw[zck hk ho ht hv];congr 1;omega
theorem rIf{c a b:Ex}{C A B:List Tk}(hc:PE R c C)(ha':PE R a A)(hb':PE R b B)(hk:k.1=4)(ho:o.1=0)(ht:t.1=0)(hv:v.1=0):PQ R (.mk k o t v [] [c,a,b]) (tIf::(C++zoM::(A++zoL::B))):=by
 refine⟨⟨by simp,rfl,rfl,rfl⟩,fun n i L hn ha he=>?_⟩
 obtain⟨m,rfl⟩:∃m,n=m+1:=⟨n-1,by omega⟩
 have ha:At R i (tIf::(C++(zoM::(A++(zoL::(B++L)))))):=by simpa using ha
 simp only[qal,qad]at hn
 have h1:=hc m _ _ (by omega) ha.tl (EndE.cons (by simp))
 have h2:=ha' m _ _ (by omega) ha.tl.app.tl (EndE.cons (by simp))
 have h3:=hb' m _ _ (by omega) ha.tl.app.tl.app.tl he
 rw[pF,Rd.prim,if_neg (by rw[ha.neg];simp[isL])]
 iterate 6 rw[if_neg (by first|(rw[ha.isAt];simp[isL];done)|(rw[ha.kind];simp[kiL];done))]
 rw[if_pos (by rw[ha.isAt];rfl),h1]
 show(R.must [[116,104,101,110]] _).bind _=_
 rw[zjz ha.tl.app rfl]
 show(pF R m .expr _).bind _=_
 rw[h2]
 show(R.must [[101,108,115,101]] _).bind _=_
 rw[zjz ha.tl.app.tl.app rfl]
 show(pF R m .expr _).bind _=_
 rw[h3]
 show PR.ok (mkE 4 0 0 0 [] [c,a,b]) _=_
 rw[zck hk ho ht hv];congr 1
 simp only[qal,qad];omega
end Go.Proofs.YthmbhfgflijapaaGreatDoor
namespace Go.Proofs.YthmbhfgflijapaaGreatDoor
open Go Go.TL
attribute [local irreducible] TR TO Then zag RetK Sound zab Kf GG zaK
variable {R:Rd}{k o t v:I64}{s:Str}
inductive TagW (R:Rd):Nat->Nat->Tk->Prop where
 | tt:TagW R 1 1 zgc
 | ff:TagW R 1 0 zdH
 | id {t v:Nat} (s:Str) (ht:3≤t) (h:R.tag s=some (t,v)):TagW R t v (1,s)
theorem TagW.aTag{t v:Nat}{w:Tk}(h:TagW R t v w){i:Nat}{L:List Tk}(ha:At R i (w::L)):R.aTag i= .ok (t,v) (i+1):=by
 cases h with
 | tt=>rw[Rd.aTag,if_pos (by rw[ha.isAt];rfl)]
 | ff=>rw[Rd.aTag,if_neg (by rw[ha.isAt];simp[isL]),if_pos (by rw[ha.isAt];rfl)]
 | id s ht h=>
   rw[Rd.aTag,if_neg (by rw[ha.isAt];simp[isL]),if_neg (by rw[ha.isAt];simp[isL]),Rd.id,if_pos (by rw[ha.kind];rfl),ha.txt]
   show(match R.tag s with
    | some tv=>PR.ok tv (i+1)
    | none=>PR.er (i+1-1) 6)=_
   rw[h]
theorem TagW.known{t v:Nat}{w:Tk}(h:TagW R t v w){i:Nat}{L:List Tk}(ha:At R i (w::L)):R.wanted t v true i= .ok () i:=by
 cases h with
 | tt=>rw[Rd.wanted,if_pos (by rw[ha.isAt];rfl),if_neg (by simp)]
 | ff=>rw[Rd.wanted,if_neg (by rw[ha.isAt];simp[isL]),if_pos (by rw[ha.isAt];rfl),if_neg (by simp)]
 | id s ht h=>
   rw[Rd.wanted,if_neg (by rw[ha.isAt];simp[isL]),if_neg (by rw[ha.isAt];simp[isL]),if_neg (by rw[ha.kind];simp[kiL]),ha.txt]
   show(match R.tag s with
    | some uw=>if true=true/\(uw.1≠t\/uw.2≠v)\/true=false/\uw.2≠0 then PR.er i 5 else PR.ok () i
    | none=>if true=true then PR.er i 5 else PR.ok () i)=_
   rw[h]
   simp only
   rw[if_neg (by simp)]
theorem TagW.first{t v:Nat}{w:Tk}(h:TagW R t v w)(hv:t=1/\v=1\/t≠1/\v=0){i:Nat}{L:List Tk}(ha:At R i (w::L)):
  R.wanted 0 (if R.isAt i [116,114,117,101]=true then 1 else 0) false i= .ok () i/\(if R.isAt i [116,114,117,101]=true then 1 else 0)=v:=by
 cases h with
 | tt=>
   have h1:R.isAt i [116,114,117,101]=true:=by rw[ha.isAt];rfl
   refine⟨?_,by rw[h1];rfl⟩
   rw[h1,Rd.wanted,if_pos h1,if_neg (by simp)]
 | ff=>simp at hv
 | id s ht h=>
   have hv0:v=0:=by omega
   subst hv0
   have h1:R.isAt i [116,114,117,101]=false:=by rw[ha.isAt];simp[isL]
   rw[Rd.wanted,if_neg (by rw[h1];simp),if_neg (by rw[ha.isAt];simp[isL]),if_neg (by rw[ha.kind];simp[kiL]),ha.txt,h1]
   refine⟨?_,rfl⟩
   show(match R.tag s with
    | some uw=>if false=true/\(uw.1≠0\/uw.2≠_)\/false=false/\uw.2≠0 then PR.er i 5 else PR.ok () i
    | none=>if false=true then PR.er i 5 else PR.ok () i)=_
   rw[h]
   simp only
   rw[if_neg (by simp)]
theorem zmq{t v:Nat}{w:Tk}(h:TagW R t v w){i:Nat}{L:List Tk}(ha:At R i (w::tL::(1,s)::tR::L)):R.sampling i= .ok ⟨s,toI t,toI v⟩ (i+4):=by
 rw[Rd.sampling,h.aTag ha]
 show(R.must [[40]] (i+1)).bind _=_
 rw[zjz ha.tl rfl]
 show(R.id (i+1+1)).bind _=_
 rw[Rd.id,if_pos (by rw[ha.tl.tl.kind];rfl),ha.tl.tl.txt]
 show(R.must [[41]] (i+1+1+1)).bind _=_
 rw[zjz ha.tl.tl.tl rfl]
 rfl
theorem zwO{a:Ex}{A:List Tk}{w:Tk}{t' v':Nat}(h:PO R a A)(hw:TagW R t' v' w)(hk:k.1=8)(ho:o.1=0)(ht:t.1=t')(hv:v.1=v'):PE R (.mk k o t v s [a]) (A++[zlk,w,tL,(1,s),tR]):=by
 intro n i L hn ha he
 have h1:1≤(A++[zlk,w,tL,(1,s),tR]).length:=by simp
 have ha2:At R i (A++(zlk::w::tL::(1,s)::tR::L)):=by simpa using ha
 have hl:(A++[zlk,w,tL,(1,s),tR]).length=A.length+5:=by simp
 obtain⟨q,hq⟩:∃q,R.K.length=q+2:=by
  have:=ha.len
  rw[qad,hl]at this
  exact⟨R.K.length-2,by omega⟩
 refine zdO (p:=6) (n0:=10*A.length+3) (qae _) h1 ha he (.inr (by rw[zcX h.1.ne,h.1.nt])) (lev6 (n0:=10*A.length+2) fun m hm=>?_) n (by rw[hl]at hn;omega)
 obtain⟨m,rfl⟩:∃m',m=m'+1:=⟨m-1,by omega⟩
 have g1:R.isAt i [45]=false:=by rw[ha2.isAt,zcX h.1.ne,h.1.mi]
 have g2:R.isAt i [112,114,101]=false:=by rw[ha2.isAt,zcX h.1.ne,h.1.pr]
 rw[pF,if_neg (by rw[g1];simp),if_neg (by rw[g2];simp),h.2 m i _ (by omega) ha2 ⟨rfl,rfl⟩]
 show R.whens R.K.length a (i+A.length)=_
 rw[hq,Rd.whens,if_pos (by rw[ha2.app.isAt];rfl),zmq hw ha2.app.tl]
 show R.whens (q+1) (.mk (toI 8) (toI 0) (toI t') (toI v') s [a]) (i+A.length+1+4)=_
 rw[Rd.whens,if_neg (by rw[ha2.app.tl.tl.tl.tl.tl.isAt,he.whn];simp),zgv hk,zgv ho,zgv ht,zgv hv,hl]
 exact congrArg _ (by omega)
def ArgW(R:Rd)(x:Ex×List Tk):Prop:=PE R x.1 x.2/\x.2≠ []/\isL x.2 [41]=false
def zfR(l:List (Ex×List Tk)):List Tk:=(l.map fun x=>znF::x.2).flatten
def zgA:List (Ex×List Tk)->List Tk
 | []=>[]
 | x::l=>x.2++zfR l
theorem zex(x:Ex×List Tk)(l:List (Ex×List Tk)):zfR (x::l)=znF::(x.2++zfR l):=by simp[zfR]
theorem zke:∀l:List (Ex×List Tk),l.length≤(zfR l).length
 | []=>qaJ _
 | x::l=>by
   have:=zke l
   rw[zex];simp;omega
theorem zkd{l:List (Ex×List Tk)}{L:List Tk}(h:EndE L):EndE (zfR l++L):=by
 cases l with
 | nil=>exact h
 | cons x l=>rw[zex];exact EndE.cons (by simp)
theorem zo3:∀(l:List (Ex×List Tk)) (l0:List Ex) (i n m:Nat) (L:List Tk),(∀x∈l,ArgW R x)->10*(zfR l).length+10≤n->l.length≤m->At R i (zfR l++(tR::L))->
  R.args (pF R n .expr) m l0 i= .ok (l0++l.map Prod.fst) (i+(zfR l).length)
 | [],l0,i,n,m,L,_,_,_,ha=>by
   have ha:At R i (tR::L):=ha
   cases m with
   | zero=>simp[Rd.args,zfR]
   | succ m=>rw[Rd.args,if_neg (by rw[ha.isAt];simp[isL])];simp[zfR]
 | x::l,l0,i,n,m,L,hx,hn,hm,ha=>by
   rw[zex]at hn ha⊢
   obtain⟨m,rfl⟩:∃m',m=m'+1:=⟨m-1,by simp at hm;omega⟩
   have ha:At R i (znF::(x.2++(zfR l++(tR::L)))):=by simpa using ha
   simp only[qal,qad]at hn hm⊢
   have h1:=(hx x qak).1 n (i+1) _ (by omega) ha.tl (zkd (EndE.cons (by simp)))
   have h2:=zo3 l (l0++[x.1]) (i+1+x.2.length) n m L (fun y hy=>hx y (qan _ hy)) (by omega) (by omega) ha.tl.app
   rw[Rd.args,if_pos (by rw[ha.isAt];rfl),h1]
   show R.args _ m (l0++[x.1]) _=_
   exact zwed
theorem zne{l:List (Ex×List Tk)}{i n:Nat}{L:List Tk}(hx:∀x∈l,ArgW R x)(hn:10*(zgA l).length+10≤n)(ha:At R i (zgA l++(tR::L))):
  (if R.isAt i [41]=true then .ok [] (i+1) else(pF R n .expr i).bind fun a j=>(R.args (pF R n .expr) R.K.length [a] j).bind fun l j=>(R.must [[41]] j).bind fun _ j=>.ok l j:PR (List Ex))= .ok (l.map Prod.fst) (i+(zgA l).length+1):=by
 cases l with
 | nil=>
   have ha:At R i (tR::L):=ha
   rw[if_pos (by rw[ha.isAt];rfl)];rfl
 | cons x l=>
   rw[zgA]at hn ha⊢
   rw[qaO]at ha
   obtain⟨g1,g2,g3⟩:=hx x qak
   simp only[qad]at hn⊢
   have hk:l.length≤R.K.length:=by
    have:=ha.len
    have:=zke l
    simp only[qad]at *;omega
   rw[if_neg (by rw[ha.isAt,zcX g2,g3];simp),g1 n i _ (by omega) ha (zkd (EndE.cons (by simp)))]
   show(R.args _ R.K.length [x.1] _).bind _=_
   rw[zo3 l [x.1] _ n R.K.length L (fun y hy=>hx y (qan _ hy)) (by omega) hk ha.app]
   show(R.must [[41]] _).bind _=_
   rw[zjz ha.app.app rfl]
   show PR.ok ([x.1]++l.map Prod.fst) _=_
   simp only[qah,qbX]
   congr 1
   omega
theorem zwM{l:List (Ex×List Tk)}(hx:∀x∈l,ArgW R x)(hk:k.1=10)(ho:o.1=0)(ht:t.1=0)(hv:v.1=0):PO R (.mk k o t v s (l.map Prod.fst)) ((1,s)::tL::(zgA l++[tR])):=by
 refine⟨⟨by simp,rfl,rfl,rfl⟩,fun n i L hn ha he=>?_⟩
 obtain⟨m,rfl⟩:∃m,n=m+1:=⟨n-1,by omega⟩
 have ha:At R i ((1,s)::tL::(zgA l++(tR::L))):=by simpa using ha
 simp only[qal,qad,qaz]at hn⊢
 rw[zdX ha,if_pos (show isL (tL::_) [40]=true from rfl),Rd.call,zne hx (by omega) ha.tl.tl]
 show(if R.isAt _ [101,118,101,114,121]=true then _ else PR.ok (mkE 10 0 0 0 s (l.map Prod.fst)) _)=_
 rw[if_neg (by rw[ha.tl.tl.app.tl.isAt,he.every];simp),zck hk ho ht hv]
 congr 1
 omega
theorem zvF{l:List (Ex×List Tk)}{b:Ex}{B:List Tk}(hx:∀x∈l,ArgW R x)(hb:PO R b B)(hk:k.1=10)(ho:o.1=0)(ht:t.1=0)(hv:v.1=1):
  PO R (.mk k o t v s (l.map Prod.fst++[b])) ((1,s)::tL::(zgA l++tR::zlj::B)):=by
 refine⟨⟨by simp,rfl,rfl,rfl⟩,fun n i L hn ha he=>?_⟩
 obtain⟨m,rfl⟩:∃m,n=m+1:=⟨n-1,by omega⟩
 have ha:At R i ((1,s)::tL::(zgA l++(tR::zlj::(B++L)))):=by simpa using ha
 simp only[qal,qad]at hn⊢
 rw[zdX ha,if_pos (show isL (tL::_) [40]=true from rfl),Rd.call,zne hx (by omega) ha.tl.tl]
 show(if R.isAt _ [101,118,101,114,121]=true then(pF R m .prim _).bind _ else _)=_
 rw[if_pos (by rw[ha.tl.tl.app.tl.isAt];rfl),hb.2 m _ L (by omega) ha.tl.tl.app.tl.tl he]
 show PR.ok (mkE 10 0 0 1 s (l.map Prod.fst++[b])) _=_
 rw[zck hk ho ht hv]
 congr 1
 omega
def brTk(x:Tk×List Tk):List Tk:=tL::x.1::tArr::(x.2++[tR])
theorem zfg{e:Ex}{A L:List Tk}{w:Tk}{n i t v t' v':Nat}{known:Bool}(h:PE R e A)(hn:10*A.length+10≤n)(ha:At R i (brTk (w,A)++L))(hw:TagW R t' v' w)
  (hwa:R.wanted t v known (i+1)= .ok () (i+1))(hkn:known=true->t=t'):R.branch (pF R n .expr) t v known i= .ok (t',e) (i+(brTk (w,A)).length):=by
 have ha:At R i (tL::w::tArr::(A++(tR::L))):=by simpa [brTk]using ha
 rw[Rd.branch,zjz ha rfl]
 show(R.wanted t v known (i+1)).bind _=_
 rw[hwa]
 show(R.aTag (i+1)).bind _=_
 rw[hw.aTag ha.tl]
 show(if known=true/\t'≠t then _ else(R.must [[45,62]] (i+1+1)).bind _)=_
 rw[if_neg (fun hc=>hc.2 (hkn hc.1).symm),zjz ha.tl.tl rfl]
 show(pF R n .expr _).bind _=_
 rw[h n _ _ hn ha.tl.tl.tl (EndE.cons (by simp))]
 show(R.must [[41]] _).bind _=_
 rw[zjz ha.tl.tl.tl.app rfl]
 show PR.ok (t',e) _=_
 congr 1
 simp[brTk];omega
abbrev Brn:=Ex×Tk×List Tk
def zdr(l:List Brn):List Tk:=(l.map fun x=>brTk x.2).flatten
theorem znX(x:Brn)(l:List Brn):zdr (x::l)=brTk x.2++zdr l:=by simp[zdr]
theorem zhd(e:Ex)(w:Tk)(A:List Tk)(l:List Brn):zdr ((e,w,A)::l)=brTk (w,A)++zdr l:=znX _ _
theorem zhf{t size n:Nat}(ht:t≠1):∀(l:List Brn) (pre:List Ex) (i m:Nat) (L:List Tk),(∀x∈l,PE R x.1 x.2.2)->(∀j (h:j<l.length),TagW R t (pre.length+j) l[j].2.1)->pre.length+l.length=size->
  10*(zdr l).length+10≤n->l.length≤m->At R i (zdr l++L)->
  R.branches (pF R n .expr) t size m pre.length (pre++List.replicate l.length noE) i= .ok (pre++l.map Prod.fst) (i+(zdr l).length)
 | [],pre,i,m,L,_,_,hs,_,_,ha=>by
   cases m with
   | zero=>simp[Rd.branches,zdr]
   | succ m=>
     simp at hs
     rw[Rd.branches,if_pos (by omega)];simp[zdr]
 | (e1,w1,A1)::l,pre,i,m,L,hx,hw,hs,hn,hm,ha=>by
   rw[zhd]at hn ha⊢
   simp only[qal,qad]at hs hn hm⊢
   obtain⟨m,rfl⟩:∃m',m=m'+1:=⟨m-1,by omega⟩
   rw[qaO]at ha
   have hb:(brTk (w1,A1)).length=A1.length+4:=by simp[brTk]
   have hw0:TagW R t pre.length w1:=by have:=hw 0 (by simp);simpa using this
   have ha1:At R (i+1) (w1::tArr::(A1++[tR]++(zdr l++L))):=by
    have:At R i (tL::(w1::tArr::(A1++[tR]++(zdr l++L)))):=by simpa [brTk]using ha
    exact this.tl
   have hx1:PE R e1 A1:=hx _ qak
   have h1:=zfg (v:=pre.length) (known:=true) hx1 (n:=n) (by omega) ha hw0 (hw0.known ha1) (fun _=>rfl)
   have h2:=zhf (n:=n) (size:=size) ht l (pre++[e1]) (i+(brTk (w1,A1)).length) m L (fun y hy=>hx y (qan _ hy)) (fun j h=>by
    have:=hw (j+1) (by simp;omega)
    rw[qad,qbW]
    simpa [qa4,qcG 1 j]using this) (by simp;omega) (by omega) (by omega) ha.app
   rw[Rd.branches,if_neg (by omega),if_neg ht,h1]
   show R.branches _ t size m (pre.length+1) _ _=_
   have hset:(pre++List.replicate (l.length+1) noE).set pre.length e1=(pre++[e1])++List.replicate l.length noE:=by
    rw[qca _ _ (qae _),qcd];simp[qbM]
   show R.branches _ t size m (pre.length+1) ((pre++List.replicate (l.length+1) noE).set pre.length e1) _=_
   rw[hset]
   rw[qad,qbW]at h2
   exact zwed
theorem zhI{i m:Nat}{L:List Tk}{s:Str}(ha:At R i (zfJ::(1,s)::L)):pF R (m+1) .prim i=(R.branch (pF R m .expr) 0 (if R.isAt (i+2+1) [116,114,117,101]=true then 1 else 0) false (i+2)).bind fun te j=>
  (R.branches (pF R m .expr) te.1 (R.size te.1) (R.size te.1) 1 ((List.replicate (R.size te.1) noE).set (if R.isAt (i+2+1) [116,114,117,101]=true then 1 else 0) te.2) j).bind fun l j=>.ok (mkE 9 0 te.1 0 s l) j:=by
 rw[pF,Rd.prim,if_neg (by rw[ha.neg];simp[isL])]
 iterate 7 rw[if_neg (by first|(rw[ha.isAt];simp[isL];done)|(rw[ha.kind];simp[kiL];done))]
 rw[if_pos (by rw[ha.isAt];rfl),Rd.merge,Rd.id,if_pos (by rw[ha.tl.kind];rfl),ha.tl.txt]
 rfl
theorem zvH{e1:Ex}{w1:Tk}{A1:List Tk}{l:List Brn}{t':Nat}(ht1:t'≠1)(hsz:R.size t'=((e1,w1,A1)::l).length)(hx:∀y∈(e1,w1,A1)::l,PE R y.1 y.2.2)(hw:∀j (h:j<((e1,w1,A1)::l).length),TagW R t' j ((e1,w1,A1)::l)[j].2.1)
  (hk:k.1=9)(ho:o.1=0)(ht:t.1=t')(hv:v.1=0):PQ R (.mk k o t v s (((e1,w1,A1)::l).map Prod.fst)) (zfJ::(1,s)::zdr ((e1,w1,A1)::l)):=by
 refine⟨⟨by simp,rfl,rfl,rfl⟩,fun n i L hn ha he=>?_⟩
 obtain⟨m,rfl⟩:∃m,n=m+1:=⟨n-1,by omega⟩
 rw[zhd]at ha hn⊢
 have ha:At R i (zfJ::(1,s)::(brTk (w1,A1)++(zdr l++L))):=by simpa using ha
 simp only[qal,qad]at hn⊢
 have hb:(brTk (w1,A1)).length=A1.length+4:=by simp[brTk]
 have hw0:TagW R t' 0 w1:=hw 0 (by simp)
 have ha1:At R (i+2+1) (w1::tArr::(A1++[tR]++(zdr l++L))):=by
  have:At R (i+2) (tL::(w1::tArr::(A1++[tR]++(zdr l++L)))):=by simpa [brTk]using ha.tl.tl
  exact this.tl
 obtain⟨f1,f2⟩:=hw0.first (.inr ⟨ht1,rfl⟩) ha1
 have h1:=zfg (known:=false) (show PE R e1 A1 from hx _ qak) (n:=m) (by omega) (show At R (i+2) _ from ha.tl.tl) hw0 f1 (fun h=>by cases h)
 have h2:=zhf (n:=m) (size:=R.size t') ht1 l [e1] (i+2+(brTk (w1,A1)).length) (R.size t') L (fun y hy=>hx y (qan _ hy)) (fun j h=>by
   have:=hw (j+1) (by simp;omega)
   simpa [qcG 1 j]using this) (by rw[hsz];simp;omega) (by omega) (by rw[hsz];simp) (show At R (i+2+(brTk (w1,A1)).length) _ from At.app (i:=i+2) ha.tl.tl)
 rw[zhI ha,h1]
 show(R.branches _ t' (R.size t') (R.size t') 1 ((List.replicate (R.size t') noE).set _ e1) _).bind _=_
 rw[f2]
 have hset:(List.replicate (R.size t') noE).set 0 e1=[e1]++List.replicate l.length noE:=by
  rw[hsz];simp[qbM]
 rw[hset]
 have h2':R.branches (pF R m .expr) t' (R.size t') (R.size t') 1 ([e1]++List.replicate l.length noE) (i+2+(brTk (w1,A1)).length)=_:=h2
 rw[h2']
 show PR.ok (mkE 9 0 t' 0 s ([e1]++l.map Prod.fst)) _=_
 rw[zck hk ho ht hv]
 simp only[qah,qbX]
 congr 1
 omega
theorem zuo{a b:Ex}{A B:List Tk}(ha':PE R a A)(hb':PE R b B)(hk:k.1=9)(ho:o.1=0)(ht:t.1=1)(hv:v.1=0):PQ R (.mk k o t v s [b,a]) (zfJ::(1,s)::(brTk (zgc,A)++brTk (zdH,B))):=by
 refine⟨⟨by simp,rfl,rfl,rfl⟩,fun n i L hn ha he=>?_⟩
 obtain⟨m,rfl⟩:∃m,n=m+1:=⟨n-1,by omega⟩
 have ha:At R i (zfJ::(1,s)::(brTk (zgc,A)++(brTk (zdH,B)++L))):=by simpa using ha
 simp only[qal,qad]at hn⊢
 have hA:(brTk (zgc,A)).length=A.length+4:=by simp[brTk]
 have hB:(brTk (zdH,B)).length=B.length+4:=by simp[brTk]
 have ha1:At R (i+2+1) (zgc::tArr::(A++[tR]++(brTk (zdH,B)++L))):=by
  have:At R (i+2) (tL::(zgc::tArr::(A++[tR]++(brTk (zdH,B)++L)))):=by simpa [brTk]using ha.tl.tl
  exact this.tl
 have ha3:At R (i+2+(brTk (zgc,A)).length) (brTk (zdH,B)++L):=At.app (i:=i+2) ha.tl.tl
 have ha4:At R (i+2+(brTk (zgc,A)).length+1) (zdH::tArr::(B++[tR]++L)):=by
  have:At R (i+2+(brTk (zgc,A)).length) (tL::(zdH::tArr::(B++[tR]++L))):=by simpa [brTk]using ha3
  exact this.tl
 obtain⟨f1,f2⟩:=(TagW.tt (R:=R)).first (.inl ⟨rfl,rfl⟩) ha1
 have h1:=zfg (known:=false) ha' (n:=m) (by omega) (show At R (i+2) _ from ha.tl.tl) .tt f1 (fun h=>by cases h)
 have h2:=zfg (t:=1) (v:=0) (known:=true) hb' (n:=m) (by omega) ha3 .ff (TagW.ff.known ha4) (fun _=>rfl)
 rw[zhI ha,h1,f2]
 show(R.branches _ 1 2 2 1 [noE,a] _).bind _=_
 rw[Rd.branches,if_neg (by decide)]
 show((R.branch _ 1 0 true _).bind _).bind _=_
 rw[h2]
 show(R.branches _ 1 2 1 2 [b,a] _).bind _=_
 rw[Rd.branches,if_pos (by decide)]
 show PR.ok (mkE 9 0 1 0 s [b,a]) _=_
 rw[zck hk ho ht hv]
 congr 1
 omega
end Go.Proofs.YthmbhfgflijapaaGreatDoor
