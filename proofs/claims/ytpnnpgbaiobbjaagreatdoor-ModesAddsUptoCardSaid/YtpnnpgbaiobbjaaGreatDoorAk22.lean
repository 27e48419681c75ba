import Derived.Test.YtpnnpgbaiobbjaaGreatDoorAk18
set_option linter.all false
namespace Go.Proofs.YtpnnpgbaiobbjaaGreatDoor
open Go Go.TL
attribute [local irreducible] TR TO Then zao RetK Sound zab Kf GG zaZ
def zam{α β:Type}(f:β->α->β×Int):β->List α->β×Int
 | a,[]=>(a,0)
 | a,x::l=>if(f a x).2=0 then zam f (f a x).1 l else f a x
theorem zc7{α β:Type}(f:β->α->β×Int):∀(l r:List α) (a:β),zam f a (l++r)=if(zam f a l).2=0 then zam f (zam f a l).1 r else zam f a l
 | [],r,a=>by simp[zam]
 | x::l,r,a=>by
   simp only[qbt,zam]
   by_cases h:(f a x).2=0
   ·simp only[h,if_true];exact zc7 f l r _
   ·simp[h]
theorem zbe{α β:Type}{f:β->α->β×Int}{a:β}{l:List α}{k:Nat}(hk:k<l.length)(h:(zam f a (l.take k)).2=0):zam f a (l.take (k+1))=f (zam f a (l.take k)).1 l[k]:=by
 rw[qaA hk,zc7,if_pos h,zam]
 split
 ·rename_i h2
  generalize f (zam f a (l.take k)).1 l[k]=z at*
  obtain⟨z1,z2⟩:=z
  simp only at h2;subst h2;rfl
 ·rfl
theorem zcp{α β:Type}{f:β->α->β×Int}{a:β}{l:List α}{k:Nat}(hk:k<l.length)(h:(zam f a (l.take k)).2=0)(hn:(f (zam f a (l.take k)).1 l[k]).2≠0):zam f a l=f (zam f a (l.take k)).1 l[k]:=by
 conv=>lhs;rw[<-qaS k l]
 rw[zc7,if_pos h,qbl hk,zam,if_neg hn]
def Lv.zgs(a:Lv)(s:Str):Lv:={ a with own:=ins a.own s }
theorem Lv.ok.zgs{a:Lv}(h:a.ok){s:Str}(hs:s.length≤1000000000):(a.zgs s).ok:=⟨h.own.ins hs,h.done⟩
def zbX(seen:List (Int×Str×Int))(vis0:List Str)(a:Lv)(d:Decl):Lv×Int:=(a.zgs d.name,if(zaK seen 0 d.name).isSome=true\/d.name∈vis0++a.own then 7 else 0)
def zml(seen:List (Int×Str×Int))(vis0:List Str)(a:Lv)(l:List Decl):Lv×Int:=zam (zbX seen vis0) a l
theorem Ch.zro{h:Ch}(hk:h.ok):h.top.ok:=by
 cases h
 case one=>exact hk
 case c1=>exact hk.2
 case c2=>exact hk.2.2
 case c3=>exact hk.2.2.2
 case c4=>exact hk.2.2.2.2
theorem Ch.zrn{h:Ch}(hk:h.ok){x:Lv}(hx:x.ok):(h.set x).ok:=by
 cases h
 case one=>exact hx
 case c1=>exact⟨hk.1,hx⟩
 case c2=>exact⟨hk.1,hk.2.1,hx⟩
 case c3=>exact⟨hk.1,hk.2.1,hk.2.2.1,hx⟩
 case c4=>exact⟨hk.1,hk.2.1,hk.2.2.1,hk.2.2.2.1,hx⟩
@[simp] theorem Ch.zna (h:Ch) (x:Lv):(h.set x).top=x:=by cases h <;> rfl
@[simp] theorem Ch.zkh (h:Ch) (x:Lv):(h.set x).vis0=h.vis0:=by cases h <;> rfl
@[simp] theorem Ch.zu4 (h:Ch) (x:Lv):(h.set x).low=h.low:=by cases h <;> rfl
theorem zfr(p:Prog)(n q:Int)(seen:List (Int×Str×Int))(hse:zaS seen)(h:Ch)(hk0:h.ok)(l:List Decl)(hw:(zac l).w≤1000000000):
  SS 159 [.ref h.id 0,.t (zac l)] p n q seen h (h.set (zml seen h.vis0 h.top l).1) (zml seen h.vis0 h.top l).2:=by
 have hml:(l.map zaa).length=l.length:=qaa _
 have hlb:l.length≤1000000000:=qaE (qbs (zai zaa 3 l)) hw
 unfold zml
 have ht0:=Ch.zro hk0
 have hset:=fun{x:Lv} (hx:x.ok)=>Ch.zrn hk0 hx
 clear hk0
 revert ht0 hset
 revert h
 refine Ch.lt fun h=>?_
 cases h
 all_goals
  intro g ht0 hset
  refine Sound.err rfl (fun _=>rfl) ?_
  refine so Tryz.func159 ?_
  refine TR.dead ?_
  repeat' (first|refine wu ?_|exact wkc|intro hc|refine wk2 ?_ ?_|fail)
  refine TR.zal l.length (fun k=>(zam (zbX seen g.vis0) g.top (l.take k)).2=0/\(zam (zbX seen g.vis0) g.top (l.take k)).1.ok) (fun k=>[(0,.ref 0 0),(1,.ref g.id 0),(10,.t (zac l)),(11,.i (l.map zaa).length),(12,.i k)]) (fun k=>full p n q seen (g.set (zam (zbX seen g.vis0) g.top (l.take k)).1)) ⟨rfl,ht0⟩ (fun k hlt ha=>?_) (fun ha=>?_)
  ·have hx:=zcQ hlt
   have hno:l[k].name.length≤1000000000:=by have:=(za2 (qad hlt)).1;omega
   have g1:=zcp (f:=(zbX seen g.vis0)) hlt ha.1
   have g2:=zbe (f:=(zbX seen g.vis0)) hlt ha.1
   obtain⟨ha1,ha2⟩:=ha
   generalize (zam (zbX seen g.vis0) g.top (l.take k)).1=st at*
   generalize l[k]=x at*
   have hk:=hset ha2
   have hown:=ha2.own
   have hz:((zbX seen g.vis0) st x).2=if(zaK seen 0 x.name).isSome=true\/x.name∈g.vis0++st.own then 7 else 0:=rfl
   have hz1:((zbX seen g.vis0) st x).1=st.zgs x.name:=rfl
   have hok:=ha2.zgs hno
   generalize (zbX seen g.vis0) st x=fx at*
   unfold zeR at hx
   repeat' (first|refine wkt ?_|refine wka ?_|refine wkD ?_|refine wk ?_|exact wkc|intro hc|refine wk2 ?_ ?_|(apply TO.zgK;(iterate 4 exact rfl);assumption;assumption)|(apply TO.zjn;(iterate 3 exact rfl);assumption)|(apply TO.zok;(iterate 4 exact rfl);assumption;assumption;exact rfl)|refine wms ?_|(apply TO.sees hk;exact rfl;exact rfl;(first|exact rfl|exact Ch.tk _ _ _ _ _);assumption)|(apply TO.defined hk;exact rfl;exact rfl;(first|exact rfl|exact Ch.tk _ _ _ _ _);assumption)|(apply TO.zkf;(iterate 4 exact rfl);assumption;decide;assumption)|fail)
   all_goals simp only[Ch.vis,Ch.zkh,Ch.zna]at*
   all_goals first
    | ((repeat' (first|refine zab.panic ?_|refine wk ?_|fail));apply retS;(first|assumption|decide);(clear hx;first|grind|grind [orE]);(first|exact leB|exact Nat.le_refl _|(simp[Ch.len];done)|(simp[Ch.len];omega)))
    | (refine zab.zat hlt ⟨by rw[g2];clear hx;grind,by rw[g2,hz1];exact hok⟩ ?_ (by rw[g2,hz1];rfl)
       repeat' (first|exact trivial|refine qaf rfl ?_|fail))
  ·obtain⟨ha1,ha2⟩:=ha
   rw[qah]at*
   repeat' (first|refine wu ?_|exact wkc|intro hc|refine wk2 ?_ ?_|fail)
   exact zlD ha1 rfl rfl rfl rfl
end Go.Proofs.YtpnnpgbaiobbjaaGreatDoor
namespace Go.TL
open Go
def zg7(ops:Array Oper)(k:Nat):Bool:=(List.range ops.size).all fun j=>Nat.blt j k || (List.range j).all fun i=>(cov ops 40 (zaI ops j)).contains i
theorem zqK{ops:Array Oper}{L:Array Bool}{k j:Nat}(hs:L.size=ops.size)(hf:zg7 ops k=true)(hdc:DC ops L)(hj:j∈Region.ready .any ops L)(hk:k≤j):∀i,i<j->L[i]?=some true:=by
 intro i hi
 obtain⟨h1,h2⟩:=(za7 hs).1 hj
 have hlt:=(qak.1 h1).1
 have:=qaB.1 hf j (by simp;omega)
 simp only[qbS]at this
 rcases this with h|h
 ·simp at h;omega
 ·have:=qaB.1 h i (by simpa using hi)
  exact zb2 hdc 40 _ h2 i (by simpa using this)
section rules
variable {P:Program}{all:Array Oper}
theorem zsj{r:Option Nat}{C:World->Prop}{Q:Act->Prop}{Q':Exit->Act->World->Prop}{k n2:Nat}(hd:zkX all=true)(hf:zg7 all k=true)(hp:∀(i:Nat) o,i<k->all[i]?=some o->Op.plain o.op=true)
  (hQ:∀(L:Array Bool) a w,L.size=all.size->(∀(i:Nat),i<k->i<all.size->L[i]?=some true)->(∀(i:Nat),k≤i->i<all.size->L[i]?=some false)->C w->Q a->wpAnyIn (Fr r) 0 P .any all Q' n2 L a w):
  ∀(u:Nat) (L M:Array Bool) (a:Act) (w:World),L.size=all.size->M.size=all.size->(∀(i:Nat),i<k->M[i]?=L[i]?)->(∀(i:Nat),k≤i->i<all.size->M[i]?=some true)->(∀(i:Nat),k≤i->i<all.size->L[i]?=some false)->
   DC all L->C w->wpAnyQIn (Fr r) 0 P .any all C Q u M a->wpAnyIn (Fr r) 0 P .any all Q' (u+n2) L a w:=by
 intro u
 have full:∀(L M:Array Bool),L.size=all.size->M.size=all.size->(∀(i:Nat),i<k->M[i]?=L[i]?)->(∀(i:Nat),k≤i->i<all.size->M[i]?=some true)->DC all L->Region.ready .any all M=[]->∀(i:Nat),i<k->i<all.size->L[i]?=some true:=by
  exact zwo
 induction u with
 | zero=>
   intro L M a w hL hM h1 h2 h3 hdc hC h
   rw[qaO]
   exact hQ L a w hL (full L M hL hM h1 h2 hdc h.1) h3 hC h.2
 | succ u ih=>
   intro L M a w hL hM h1 h2 h3 hdc hC h
   by_cases hr:Region.ready .any all M=[]
   ·exact zwdz
   ·
    obtain⟨x,hx⟩:=qcu _ hr
    have hx1:=((za7 hM).1 hx).1
    have hxl:=(qak.1 hx1).1
    have hxk:x<k:=qbP fun hle=>by rw[h2 x hle (by omega)]at hx1;cases hx1
    have hLx:L[x]?=some false:=by rw[<-h1 x hxk];exact hx1
    rw[show u+1+n2=(u+n2)+1 from by omega]
    refine⟨fun h0=>?_,fun i hi=>?_⟩
    ·exact zwfz
    ·have hik:i<k:=qbP fun hle=>by
      have:=zqK hL hf hdc hi hle x (by omega)
      rw[this]at hLx;cases hLx
     exact zwc
theorem znB{r:Option Nat}{Q':Exit->Act->World->Prop}{k:Nat}(hd:zkX all=true)(hf:zg7 all k=true):∀(l:List Oper) (p:Nat) (L:Array Bool) (a:Act) (w:World),k≤p->(∀j,l[j]?=all[p+j]?)->L.size=all.size->
   (∀(i:Nat),i<p->i<all.size->L[i]?=some true)->(∀(i:Nat),p≤i->i<all.size->L[i]?=some false)->wpListIn (Fr r) 0 P all Q' l a w->wpAnyIn (Fr r) 0 P .any all Q' l.length L a w
 | [],p,L,a,w,hk,hl,hL,h1,h2,h=>by
   exact zwq
 | o::l,p,L,a,w,hk,hl,hL,h1,h2,h=>by
   have hpo:all[p]?=some o:=by simpa using (hl 0).symm
   have hpl:=(qak.1 hpo).1
   have hLp:=h2 p (qag _) hpl
   have hdc:DC all L:=by
    exact zwt
   refine⟨fun h0=>?_,fun i hi=>?_⟩
   ·exact zwfy
   ·have hi1:=((za7 hL).1 hi).1
    have hil:=(qak.1 hi1).1
    have hip:p≤i:=qbD fun hlt=>by rw[h1 i hlt (by omega)]at hi1;cases hi1
    have hipe:i=p:=by
     refine qav fun hne=>?_
     have:=zqK hL hf hdc hi (by omega) p (by omega)
     rw[this]at hLp;cases hLp
    subst hipe
    have hnext:∀a' w',wpListIn (Fr r) 0 P all Q' l a' w'->wpAnyIn (Fr r) 0 P .any all Q' l.length (L.setIfInBounds i true) a' w':=by
     intro a' w' h'
     refine znB hd hf l (i+1) (L.setIfInBounds i true) a' w' (by omega) (fun j=>?_) (by simpa using hL) (fun j hj hja=>?_) (fun j hj hja=>?_) h'
     ·exact zweq
     ·exact zwdl
     ·exact zwet
    exact zwbq
def zqV(ops:Array Oper)(k:Nat):Bool:=
 Region.noSelect ops && (Nat.ble k ops.size && (zkX ops && (zg7 ops k && Region.lexFrom .any ops k 0 (Array.replicate k false++Array.replicate (ops.size-k) true))))
theorem TR.zuY{n:Nat}{env:Env}{H:Heap}{K:TK}(k:Nat){id:Nat}{l:List Oper}(hm:P.follows .mixedOrders=true)(hB:zqV l.toArray k=true)(hp:(l.take k).all (fun o=>Op.plain o.op)=true)
  (h:TO true P n l.toArray (l.take k) env H (zaZ P n l.toArray (l.drop k) H K)):TR P n (.region id l.toArray true) env H K:=by
 simp only[zqV,qaz]at hB
 obtain⟨hB1,hB2,hB3,hB4,hB5⟩:=hB
 have hk:k≤l.length:=by simpa using qai hB2
 intro φ m a h1 h2 h3 h4
 have hq:=h φ m a h1 h2 h3 h4
 simp only at hq
 refine zbp (wpIn_region_any hm ?_)
 have hlt:(l.take k).length=k:=by simp;omega
 have:=zsj (P:=P) (all:=l.toArray) (r:=φ.r) (C:=Keeps m.w) (Q:=fun a'=>∀w',Keeps m.w w'->wpListIn (Fr φ.r) 0 P l.toArray (Post φ m n K) (l.drop k) a' w')
  (Q':=Post φ m n K) (k:=k) (n2:=(l.drop k).length) hB3 hB4 (fun i o hi ho=>qaB.1 hp o (qat (i:=i) (by rw[qaW,if_pos hi];simpa using ho)))
  (fun L a' w' hL g1 g2 hC hQ=>znB hB3 hB4 (l.drop k) k L a' w' (qag _) (fun j=>by simp) hL g1 g2 (hQ w' hC))
  k (Array.replicate l.toArray.size false) (Array.replicate k false++Array.replicate (l.toArray.size-k) true) a { m.w with drawn:=m.w.drawn+1 } (by simp) (by simp;omega)
  (fun i hi=>by
    rw[qaY (by simpa using hi),qaN,qaN,if_pos hi,if_pos (by simp;omega)])
  (fun i hi hia=>by
    rw[qa5 (by simpa using hi),qaN,if_pos (by simp at hia⊢;omega)])
  (fun i hi hia=>by rw[qaN,if_pos hia])
  (fun i hi=>by rw[qaN]at hi;split at hi <;> cases hi)
  ⟨rfl,rfl,rfl,qag _,fun _ _=>rfl⟩ ?_
 ·exact zwep
 ·exact zwg
theorem TR.zs5{n:Nat}{env:Env}{H:Heap}{K:TK}{id:Nat}{l:List Oper}(hm:P.follows .mixedOrders=true)(hB:zqV l.toArray (l.length-1)=true)(hp:(l.take (l.length-1)).all (fun o=>Op.plain o.op)=true)
  (h:TO true P n l.toArray (l.take (l.length-1)) env H (zaZ P n l.toArray (l.drop (l.length-1)) H K)):TR P n (.region id l.toArray true) env H K:=TR.zuY _ hm hB hp h
end rules
end Go.TL
namespace Go.Proofs.YtpnnpgbaiobbjaaGreatDoor
open Go Go.TL
attribute [local irreducible] TR TO Then zao RetK Sound zab Kf GG zaZ
theorem wkD{G Q:Prop}(k:Q)(h:Hold Q->G:=by
  first
  | (intro k;apply TR.regionD2 hmix;decide +kernel;exact rfl;exact k.p)
  | (intro k;apply TR.zs5 hmix;decide +kernel;exact rfl;exact k.p)):G:=h ⟨k⟩
theorem wsx{G Q:Prop}(k:Q)(h:Hold Q->G:=by
  intro k
  first
  | (apply TO.zjn;(iterate 3 exact rfl);assumption;exact k.p)
  | (apply TO.zok;(iterate 4 exact rfl);assumption;assumption;exact rfl;exact k.p)):G:=h ⟨k⟩
theorem wsy{G Q R:Prop}(k:Q)(l:R)(h:Hold Q->Hold R->G:=by
  intro k l
  first
  | (apply TO.zgK;(iterate 4 exact rfl);assumption;assumption;exact k.p;exact l.p)
  | (apply TO.sees hk;exact rfl;exact rfl;(first|exact rfl|exact Ch.tk _ _ _ _ _);assumption;exact k.p;exact l.p)
  | (apply TO.defined hk;exact rfl;exact rfl;(first|exact rfl|exact Ch.tk _ _ _ _ _);assumption;exact k.p;exact l.p)):G:=h ⟨k⟩ ⟨l⟩
def zma(p:Prog)(seen:List (Int×Str×Int))(node left:Int)(x:Ex):Int:=
 match zaK seen 1 x.name with
 | none=>6
 | some i=>if i<node then(match p.nodes[i.toNat]? with
   | none=>0
   | some n=>if(x.args.length:Int)≠n.ins.length+x.v.1 then 9 else if(n.outs.length:Int)≠left then 9 else 0) else 6
def zch(p:Prog)(seen:List (Int×Str×Int)):Prop:=∀s i,zaK seen 1 s=some i->0≤i/\i<p.nodes.length
section
variable {n:Nat}{env:Env}{K:TK}{all:Array Oper}{rest:List Oper}{d id:Nat}{ty:TypeId}{pos:String}{aft:Array Edge}{H:Heap}{x y:Operand}{q:Bool}
theorem TO.zu3{l:List (Int×Str×Int)}{s:Str}{k v:Int}(hd:Nat.ble (d+1) n=true)(hx:env.val x=some (.mp id))(hH:H[id]?=some (zbS l))(hy:env.val y=some (.t (.ag [.i k,.s s])))(hg:zaK l k s=some v)(hl:zaS l)(hk:0≤k/\k≤2)(hs:s.length≤1000000000)
  (k1:TO q Tryz.prog n all rest ((d,.tup [.i v,.b true])::env) H K):
  TO q Tryz.prog n all (⟨some d,.lookup 160 x y true,ty,pos,aft,none⟩::rest) env H K:=
 TO.zkf hd hx hH hy hl hk hs (fun w hw=>by rw[hg]at hw;cases hw;exact k1) (fun hn=>by rw[hg]at hn;cases hn)
theorem TO.ztU{l:List (Int×Str×Int)}{s:Str}{k:Int}(hd:Nat.ble (d+1) n=true)(hx:env.val x=some (.mp id))(hH:H[id]?=some (zbS l))(hy:env.val y=some (.t (.ag [.i k,.s s])))(hg:zaK l k s=none)(hl:zaS l)(hk:0≤k/\k≤2)(hs:s.length≤1000000000)
  (k1:TO q Tryz.prog n all rest ((d,.tup [.i 0,.b false])::env) H K):
  TO q Tryz.prog n all (⟨some d,.lookup 160 x y true,ty,pos,aft,none⟩::rest) env H K:=
 TO.zkf hd hx hH hy hl hk hs (fun w hw=>by rw[hg]at hw;cases hw) (fun _=>k1)
end
theorem retB{rs:List ResultVar}{env:Env}{H H1:Heap}{n q c c':Int}{N:Nat}{v:SV}(h0:c'≠0)(hc:c'=c)(hN:Nat.ble N H.length=true):
  ziw (RetK tab rs N (Err0 c v (zci n q c) H1 N)) (.panic (zci n q c')) env H:=retS h0 hc (qai hN)
theorem zmb(p:Prog)(hp:p.nodes.length≤1000000000)(hq:∀u∈p.nodes,u.ins.length≤1000000000/\u.outs.length≤1000000000)(a q:Int)(seen:List (Int×Str×Int))(hse:zaS seen)(hsn:zch p seen)(node left:Int)(x:Ex)(hv:x.v.1=0\/x.v.1=1)(hno:x.name.length≤1000000000):
  Sound Tryz.prog 289 [.ref 0 0,.i node,.t (.ag (exC x)),.i left] [lkB p a q,zbS seen] (Err (zma p seen node left x) (.tup []) (zci a q (zma p seen node left x)) [lkB p a q,zbS seen]):=by
 have hml:(p.nodes.map nodT).length=p.nodes.length:=qaa _
 have hmx:(x.args.map exT).length=x.args.length:=qaa _
 unfold zma exC
 cases hg:zaK seen 1 x.name with
 | none=>
   simp only[]
   refine Sound.err rfl (fun _=>rfl) ?_
   refine so Tryz.func289 ?_
   refine TR.dead ?_
   repeat' (first|refine wkt ?_|refine wka ?_|refine wkD ?_|refine wk ?_|exact wkc|intro hc|refine wk2 ?_ ?_|refine wsx ?_|refine wms ?_|refine wsy ?_ ?_|(apply TO.ztU;(iterate 4 exact rfl);assumption;assumption;decide;assumption)|fail)
   (apply retB;decide;rfl;exact rfl)
 | some i=>
   obtain⟨hi0,hi1⟩:=hsn _ _ hg
   simp only[]
   by_cases hin:i<node
   ·rw[if_pos hin]
    obtain⟨k,rfl⟩:∃k:Nat,i=k:=⟨i.toNat,by omega⟩
    have hk:k<p.nodes.length:=by omega
    have hat:(p.nodes.map nodT)[((k:Int)).toNat]?=some (.ag (nodC p.nodes[k])):=zeV hk
    have hat2:p.nodes[((k:Int)).toNat]?=some p.nodes[k]:=qac hk
    rw[hat2]
    have hqk:=hq _ (qad hk)
    generalize p.nodes[k]=u at*
    have m1:(u.ins.map zaa).length=u.ins.length:=qaa _
    have m2:(u.outs.map zaa).length=u.outs.length:=qaa _
    simp only[]
    unfold nodC at hat
    refine Sound.err rfl (fun _=>rfl) ?_
    refine so Tryz.func289 ?_
    refine TR.dead ?_
    repeat' (first|refine wkt ?_|refine wka ?_|refine wkD ?_|refine wk ?_|exact wkc|intro hc|refine wk2 ?_ ?_|refine wsx ?_|refine wms ?_|refine wsy ?_ ?_|(apply TO.zu3;(iterate 4 exact rfl);assumption;assumption;decide;assumption)|fail)
    ·exact zlD (by clear hat;simp;omega) rfl rfl rfl rfl
    ·(apply retB;decide;(clear hat;rw[if_neg (by simp;omega),if_pos (by omega)]);exact rfl)
    ·(apply retB;decide;(clear hat;rw[if_pos (by simp;omega)]);exact rfl)
   ·rw[if_neg hin]
    refine Sound.err rfl (fun _=>rfl) ?_
    refine so Tryz.func289 ?_
    refine TR.dead ?_
    repeat' (first|refine wkt ?_|refine wka ?_|refine wkD ?_|refine wk ?_|exact wkc|intro hc|refine wk2 ?_ ?_|refine wsx ?_|refine wms ?_|refine wsy ?_ ?_|(apply TO.zu3;(iterate 4 exact rfl);assumption;assumption;decide;assumption)|fail)
    (apply retB;decide;rfl;exact rfl)
def oneS(p:Prog)(seen:List (Int×Str×Int))(node:Int)(vis:List Str)(left:Int)(x:Ex):Int:=
 if x.kind.1=2\/x.kind.1=8\/x.kind.1=9 then(if x.name∈vis then 0 else 6) else if x.kind.1=10 then zma p seen node left x else 0
def zd9(p:Prog)(seen:List (Int×Str×Int))(node:Int)(vis:List Str)(left:Int)(e:Ex):Int:=orE (oneS p seen node vis left e) (zaf (oneS p seen node vis 1) (flats e.args))
def lf(left:Int)(pre:List Ex):Int:=if pre=[] then left else 1
theorem zvH(left:Int)(pre:List Ex)(x:Ex):lf left (pre++[x])=1:=by simp[lf]
def panF(g:Int->Ex->Int)(left n q:Int)(Hd:Int->Heap)(pre:List Ex)(x:Ex):Out:=if g (lf left pre) x=0 then .go else .panic (zci n q (g (lf left pre) x)) (Hd (lf left pre))
theorem zrB(g:Int->Ex->Int)(left n q:Int)(Hd:Int->Heap):∀(l pre:List Ex),pre≠ []->zbc (panF g left n q Hd) pre l=if zaf (g 1) l=0 then .go else .panic (zci n q (zaf (g 1) l)) (Hd 1)
 | [],pre,_=>by simp[zbc,zaf]
 | x::l,pre,hp=>by
   have h1:lf left pre=1:=by simp[lf,hp]
   simp only[zbc,panF,zaf,h1]
   by_cases h:g 1 x=0
   ·exact zwfp
   ·simp[h]
theorem ztb(g:Int->Ex->Int)(left n q:Int)(Hd:Int->Heap)(x:Ex)(l:List Ex):zbc (panF g left n q Hd) [] (x::l)=if g left x=0 then(if zaf (g 1) l=0 then .go else .panic (zci n q (zaf (g 1) l)) (Hd 1)) else .panic (zci n q (g left x)) (Hd left):=by
 have h1:lf left []=left:=by simp[lf]
 simp only[zbc,panF,h1]
 by_cases h:g left x=0
 ·exact zwfp
 ·simp[h]
structure zgr (p:Prog):Prop where
 nodes:p.nodes.length≤1000000000
 each:∀u∈p.nodes,u.ins.length≤1000000000/\u.outs.length≤1000000000
def ExOk(x:Ex):Prop:=(x.kind.1=10->x.v.1=0\/x.v.1=1)/\x.name.length≤1000000000
set_option maxHeartbeats 4000000 in
theorem zf7 (p:Prog) (hp:zgr p) (n q:Int) (seen:List (Int×Str×Int)) (hse:zaS seen) (hsn:zch p seen) (node left:Int) (h:Ch) (hk:h.ok) (e:Ex) (hw:wEx e≤1000000000) (hex:∀x∈flat e,ExOk x):
  SS 239 [.i node,.ref h.id 0,.t (.ag (exC e)),.i left] p n q seen h h (zd9 p seen node h.vis left e):=by
 revert hk
 revert h
 refine Ch.lt fun h=>?_
 cases h
 all_goals
  intro g hk
  have hs:=zcN e
  rw[zay]at hs
  have hc0:exC e=[T.n e.kind,T.n e.op,T.n e.t,T.n e.v,.s e.name,.sl 6 (e.args.map exT)]:=rfl
  rw[hc0]at hs⊢
  have hz:zd9 p seen node (g.vis) left e=zd9 p seen node (g.vis) left e:=rfl
  conv at hz=>rhs;unfold zd9 orE
  generalize zd9 p seen node (g.vis) left e=z at hz⊢
  refine Sound.err rfl (fun _=>rfl) ?_
  refine so Tryz.func239 ?_
  refine TR.dead ?_
  repeat' (first|refine wu ?_|exact wkc|intro hc|refine wk2 ?_ ?_|refine wv hs ?_|fail)
  refine TR.zdF e (fun pre=>(full p n q seen g)++[.cells [.ref 0 0],.cells [.i node],.cells [.ref g.id 0],.cells [.t (T.n e.kind),.t (T.n e.op),.t (T.n e.t),.t (T.n e.v),.t (.s e.name),.t (.sl 6 (e.args.map exT))],.cells [.i (lf left pre)]]) (panF (oneS p seen node (g.vis)) left n q (fun u=>.dead:: .dead::((g.heap)++[.cells [.ref 0 0],.cells [.i node],.cells [.ref g.id 0],.cells [.t (T.n e.kind),.t (T.n e.op),.t (T.n e.t),.t (T.n e.v),.t (.s e.name),.t (.sl 6 (e.args.map exT))],.cells [.i u]]))) rfl hw ?_ rfl rfl (fun _=>⟨rfl,rfl⟩) (fun pre x=>?_) (fun fn pre x post hsp=>?_) (fun fn=>?_)
  ·rw[show lf left []=left from rfl];rfl
  ·unfold panF
   split <;> rename_i hq <;> split at hq <;> cases hq
   ·trivial
   ·exact⟨rfl,rfl,rfl⟩
  ·have hxk:=hex x (by rw[hsp];simp)
   have hno:=hxk.2
   have hcx:exC x=[T.n x.kind,T.n x.op,T.n x.t,T.n x.v,.s x.name,.sl 6 (x.args.map exT)]:=rfl
   have hcal:=fun hv=>zmb p hp.nodes hp.each n q seen hse hsn node (lf left pre) x hv hno
   have ho:oneS p seen node (g.vis) (lf left pre) x=oneS p seen node (g.vis) (lf left pre) x:=rfl
   conv at ho=>rhs;unfold oneS
   have hpf:panF (oneS p seen node (g.vis)) left n q (fun u=>.dead:: .dead::((g.heap)++[.cells [.ref 0 0],.cells [.i node],.cells [.ref g.id 0],.cells [.t (T.n e.kind),.t (T.n e.op),.t (T.n e.t),.t (T.n e.v),.t (.s e.name),.t (.sl 6 (e.args.map exT))],.cells [.i u]])) pre x=if oneS p seen node (g.vis) (lf left pre) x=0 then .go else .panic (zci n q (oneS p seen node (g.vis) (lf left pre) x)) (.dead:: .dead::((g.heap)++[.cells [.ref 0 0],.cells [.i node],.cells [.ref g.id 0],.cells [.t (T.n e.kind),.t (T.n e.op),.t (T.n e.t),.t (T.n e.v),.t (.s e.name),.t (.sl 6 (e.args.map exT))],.cells [.i (lf left pre)]])):=rfl
   have hla:=zvH left pre x
   generalize panF (oneS p seen node (g.vis)) left n q (fun u=>.dead:: .dead::((g.heap)++[.cells [.ref 0 0],.cells [.i node],.cells [.ref g.id 0],.cells [.t (T.n e.kind),.t (T.n e.op),.t (T.n e.t),.t (T.n e.v),.t (.s e.name),.t (.sl 6 (e.args.map exT))],.cells [.i u]]))=pf at*
   generalize oneS p seen node (g.vis) (lf left pre) x=z1 at*
   generalize lf left pre=lv at*
   rw[hcx]at hcal⊢
   have hq:x.kind.1=10\/x.kind.1≠10:=by omega
   rcases hq with hq|hq
   ·have hcal:=hcal (hxk.1 hq)
    rw[if_neg (by omega),if_pos hq]at ho
    rw[<-ho]at hcal
    repeat' (first|refine wu ?_|exact wkc|intro hc|refine wk2 ?_ ?_|fail)
    refine⟨rfl,?_⟩
    repeat' (first|refine wkt ?_|refine wka ?_|refine wkD ?_|refine wk ?_|exact wkc|intro hc|refine wk2 ?_ ?_|refine wsx ?_|refine wms ?_|refine wsy ?_ ?_|refine we hcal ?_ ?_|fail)
    ·exact⟨by rw[hpf,if_pos hc],by simp only[hla];rfl,rfl⟩
    ·exact⟨_,by rw[hpf,if_neg hc];rfl,rfl,rfl⟩
   ·clear hcal
    repeat' (first|refine wu ?_|exact wkc|intro hc|refine wk2 ?_ ?_|fail)
    refine⟨rfl,?_⟩
    by_cases hm:x.name∈g.vis
    ·rw[if_pos hm]at ho
     repeat' (first|refine wkt ?_|refine TR.zm3 (envF:=_) (g:=True) [(.ref 0 0,false),(.ref g.id 0,false),(.cp [T.n x.kind,T.n x.op,T.n x.t,T.n x.v,.s x.name,.sl 6 (x.args.map exT)] 4,false),(.s x.name,false),(.b true,true),(.tup [],true)] hmix (by dsimp only[List.map];decide +kernel) ?_ rfl (by decide) ?_|refine wk ?_|exact wkc|intro hc|refine wk2 ?_ ?_|exact qaf (qaf rfl rfl) trivial|refine qaf (fun env=>?_) ?_|exact trivial|exact absurd hm hc|exact absurd hc hm|exact(fun hf=>hf.elim)|refine wms ?_|(apply TO.sees hk;(iterate 3 exact rfl);assumption)|fail)
     all_goals exact⟨by rw[hpf,if_pos (by rw[ho];clear hpf hs;grind)],by simp only[hla];rfl,rfl⟩
    ·rw[if_neg hm]at ho
     repeat' (first|refine wkt ?_|refine TR.zm3 (envF:=_) (g:=False) [(.ref 0 0,false),(.ref g.id 0,false),(.cp [T.n x.kind,T.n x.op,T.n x.t,T.n x.v,.s x.name,.sl 6 (x.args.map exT)] 4,false),(.s x.name,false),(.b false,true),(.tup [],true)] hmix (by dsimp only[List.map];decide +kernel) ?_ rfl (by decide) ?_|refine wk ?_|exact wkc|intro hc|refine wk2 ?_ ?_|exact qaf (qaf rfl rfl) trivial|refine qaf (fun env=>?_) ?_|exact trivial|exact absurd hm hc|exact absurd hc hm|exact(fun hf=>hf.elim)|refine wms ?_|(apply TO.sees hk;(iterate 3 exact rfl);assumption)|fail)
     all_goals first
      | exact⟨by rw[hpf,if_pos (by rw[ho];clear hpf hs;grind)],by simp only[hla];rfl,rfl⟩
      | (have h6:z1=6:=by rw[ho];clear hpf hs;grind
         rw[h6,if_neg (by decide)]at hpf
         exact⟨_,by rw[hpf];rfl,rfl,rfl⟩)
  ·rw[zcD,ztb]
   by_cases z1:oneS p seen node (g.vis) left e=0
   ·rw[if_pos z1]at hz⊢
    by_cases z2:zaf (oneS p seen node (g.vis) 1) (flats e.args)=0
    ·rw[if_pos z2]
     simp only[]
     rw[z2]at hz
     repeat' (first|refine wu ?_|exact wkc|intro hc|refine wk2 ?_ ?_|fail)
     exact zlD hz rfl rfl rfl rfl
    ·rw[if_neg z2]
     simp only[]
     (repeat' (first|refine zab.panic ?_|refine wk ?_|fail))
     exact retB z2 hz.symm rfl
   ·rw[if_neg z1]at hz⊢
    simp only[]
    (repeat' (first|refine zab.panic ?_|refine wk ?_|fail))
    exact retB z1 hz.symm rfl
theorem Ch.app(h h':Ch)(p:Prog)(n q n' q':Int)(seen seen':List (Int×Str×Int)):full p n' q' seen' h'++(full p n q seen h).drop h.N=full p n' q' seen' h':=by
 rw[qa7 (by rw[Ch.len];exact qag _),qaQ]
theorem Ch.nb1(h:Ch):Nat.blt 0 h.N=true:=by cases h <;> rfl
theorem Ch.nb2(h:Ch):Nat.blt h.id h.N=true:=by cases h <;> rfl
section
variable {n:Nat}{env:Env}{K:TK}{all:Array Oper}{rest:List Oper}{d:Nat}{ty:TypeId}{pos:String}{aft:Array Edge}{p:Prog}{a q a' q':Int}{seen seen':List (Int×Str×Int)}{H H2:Heap}{args:Array Operand}{ts:Array TypeId}
theorem TO.zv9{h h':Ch}{c:Int}{cargs:List SV}{v pv:SV}{f:Operand}{fid:FuncId}{caps:List SV}{vs:List SV}
  (hs:Sound Tryz.prog fid cargs (full p a q seen h) (Err c v pv (full p a' q' seen' h')))(hn:h'.N=h.N)(hd:Nat.ble (d+1) n=true)(hf:env.val f=some (.fn fid caps))(ha:env.vals args.toList=some vs)(hl:Les (vs++caps) cargs)
  (hH:H.take h.N=full p a q seen h)(hu:unders h.N cargs=true)(hv:v.under h.N=true)(hpv:pv.under h.N=true)(hH2:full p a' q' seen' h'++H.drop h.N=H2)
  (k:c=0->TO false Tryz.prog n all rest ((d,v)::env) H2 K)(kp:c≠0->K (.panic pv) env (List.replicate h.N .dead++H.drop h.N)):
  TO false Tryz.prog n all (⟨some d,.call { callee:=.value f,args:=args,argTypes:=ts },ty,pos,aft,none⟩::rest) env H K:=by
 have hN:h.N≤H.length:=by have:=congrArg List.length hH;rw[Ch.len]at this;simp at this;omega
 exact TO.zkH h.N hs hd hf ha hl (by simpa using hN) hH hu (Ch.under h p a q seen) hv hpv ((Ch.len h' p a' q' seen').trans hn) (by have:=Ch.under h' p a' q' seen';rw[hn]at this;exact this) (by rw[<-hH2,za6]) k kp
end
theorem wss{G Q1 Q2:Prop}{f:FuncId}{cargs:List SV}{v pv:SV}{c:Int}{p:Prog}{a q a' q':Int}{seen seen':List (Int×Str×Int)}{h h':Ch}(hs:Sound Tryz.prog f cargs (full p a q seen h) (Err c v pv (full p a' q' seen' h')))(k1:Q1)(k2:Q2)
  (hh:Sound Tryz.prog f cargs (full p a q seen h) (Err c v pv (full p a' q' seen' h'))->Hold Q1->Hold Q2->G:=by
  intro hs k1 k2
  (apply Go.Proofs.YtpnnpgbaiobbjaaGreatDoor.TO.zv9 hs;(first|exact rfl|simp);(iterate 3 exact rfl);exact zqb;(first|exact rfl|exact Go.Proofs.YtpnnpgbaiobbjaaGreatDoor.Ch.tk _ _ _ _ _);(first|exact rfl|(simp only[unders,SV.under,Go.Proofs.YtpnnpgbaiobbjaaGreatDoor.Ch.nb1,Go.Proofs.YtpnnpgbaiobbjaaGreatDoor.Ch.nb2,qcN]));exact rfl;exact rfl;(first|exact Go.Proofs.YtpnnpgbaiobbjaaGreatDoor.Ch.app _ _ _ _ _ _ _ _ _|exact rfl);exact k1.p;exact k2.p)):G:=hh hs ⟨k1⟩ ⟨k2⟩
def zpW(p:Prog)(seen:List (Int×Str×Int))(node:Int)(vis:List Str)(l:List Tran):Int:=zaf (fun t=>zd9 p seen node vis 1 t.cond) l
theorem zi7(p:Prog)(hp:zgr p)(n q:Int)(seen:List (Int×Str×Int))(hse:zaS seen)(hsn:zch p seen)(node:Int)(h:Ch)(hk:h.ok)(l:List Tran)(hw:(T.sl 8 (l.map zah)).w≤1000000000)(hex:∀t∈l,∀x∈flat t.cond,ExOk x):
  SS 291 [.i node,.ref h.id 0,.t (.sl 8 (l.map zah))] p n q seen h h (zpW p seen node h.vis l):=by
 have hml:(l.map zah).length=l.length:=qaa _
 have hlb:l.length≤1000000000:=qaE (qbs (zai zah 8 l)) hw
 unfold zpW
 refine Sound.err rfl (fun _=>rfl) ?_
 refine so Tryz.func291 ?_
 refine TR.dead ?_
 repeat' (first|refine wu ?_|exact wkc|intro hc|refine wk2 ?_ ?_|fail)
 refine TR.zal l.length (fun k=>zaf (fun t=>zd9 p seen node h.vis 1 t.cond) (l.take k)=0) (fun k=>[(0,.ref 0 0),(1,.i node),(2,.ref h.id 0),(10,.t (.sl 8 (l.map zah))),(11,.i (l.map zah).length),(12,.i k)]) (fun _=>full p n q seen h) rfl (fun k hlt ha=>?_) (fun ha=>?_)
 ·have hx:=zl2 hlt
  have g1:=zaF (f:=fun t=>zd9 p seen node h.vis 1 t.cond) hlt ha
  have g2:=zaq (f:=fun t=>zd9 p seen node h.vis 1 t.cond) hlt ha
  have hwx:=zav (f:=zah) (sz:=8) (qad hlt)
  have hs:=zf7 p hp n q seen hse hsn node 1 h hk l[k].cond (by have:=zks (t:=l[k]);omega) (hex _ (qad hlt))
  generalize l[k]=x at*
  generalize zd9 p seen node h.vis 1 x.cond=z at*
  unfold zgY at hx
  unfold exC at hs
  repeat' (first|refine wkt ?_|refine wka ?_|refine wkD ?_|refine wk ?_|exact wkc|intro hc|refine wk2 ?_ ?_|refine wsx ?_|refine wms ?_|refine wsy ?_ ?_|refine wss hs ?_ ?_|fail)
  ·exact zab.zat hlt (g2 hc)
  ·((repeat' (first|refine zab.panic ?_|refine wk ?_|fail));apply retS;(first|assumption|decide);(clear hx hs;first|grind|grind [orE]);(first|exact leB|exact Nat.le_refl _|(simp[Ch.len];done)|(simp[Ch.len];omega)))
 ·exact zwbs
def Lv.zdi(a:Lv)(s:Str):Lv:={ a with done:=ins a.done s,defs:=a.defs++[s] }
theorem Lv.ok.zdi{a:Lv}(h:a.ok){s:Str}(hs:s.length≤1000000000):(a.zdi s).ok:=⟨h.own,h.done.ins hs⟩
def zdB(vis low:List Str)(a:Lv)(s:Str):Lv×Int:=(a.zdi s,if s∈vis then(if s∈low\/s∈a.done then 7 else 0) else 6)
def equS(p:Prog)(seen:List (Int×Str×Int))(node:Int)(vis0 low:List Str)(a:Lv)(u:Equ):Lv×Int:=
 ((zam (zdB (vis0++a.own) low) a u.left).1,orE (zam (zdB (vis0++a.own) low) a u.left).2 (zd9 p seen node (vis0++a.own) u.left.length u.right))
theorem ztE{u:Equ}{s:Str}(h:s∈u.left):s.length≤(equT u).w:=by
 have h1:=zav (f:=T.s) (sz:=1) h
 rw[w_s]at h1
 rw[show equT u= .ag (.sl 1 (u.left.map T.s)::exC u.right) from rfl,w_ag,qaj,qao]
 omega
theorem zk0(p:Prog)(hp:zgr p)(n q:Int)(seen:List (Int×Str×Int))(hse:zaS seen)(hsn:zch p seen)(node:Int)(h:Ch)(hne:h.N≠5)(hk0:h.ok)(u:Equ)(hw:(equT u).w≤1000000000)(hdl:h.top.defs.length+u.left.length≤2000000000)(hex:∀x∈flat u.right,ExOk x):
  SS 161 [.i node,.ref h.id 0,.t (.ag (equC u))] p n q seen h (h.set (equS p seen node h.vis0 h.low h.top u).1) (equS p seen node h.vis0 h.low h.top u).2:=by
 have hset:=fun{x:Lv} (hx:x.ok)=>Ch.zrn hk0 hx
 have ht0:=Ch.zro hk0
 clear hk0
 revert hne hdl hset ht0
 revert h
 refine Ch.lt fun h=>?_
 cases h
 case one=>intro g hne;exact absurd rfl hne
 all_goals
  intro g hne hdl hset ht0
  clear hne
  have hml:(u.left.map T.s).length=u.left.length:=qaa _
  have hlb:u.left.length≤1000000000:=qaE zda hw
  have hwl:∀s∈u.left,s.length≤1000000000:=fun s hs=>qaE (ztE hs) hw
  have hwe:=qaE (zr2 (q:=u)) hw
  unfold equS equC
  refine Sound.err rfl (fun _=>rfl) ?_
  refine so Tryz.func161 ?_
  refine TR.dead ?_
  repeat' (first|refine wu ?_|exact wkc|intro hc|refine wk2 ?_ ?_|fail)
  refine TR.zal u.left.length (fun k=>(zam (zdB (g.vis0++g.top.own) g.low) g.top (u.left.take k)).2=0/\(zam (zdB (g.vis0++g.top.own) g.low) g.top (u.left.take k)).1.ok/\(zam (zdB (g.vis0++g.top.own) g.low) g.top (u.left.take k)).1.own=g.top.own/\(zam (zdB (g.vis0++g.top.own) g.low) g.top (u.left.take k)).1.defs.length=g.top.defs.length+k) (fun k=>[(0,.ref 0 0),(1,.i node),(2,.ref g.id 0),(7,.cp [.sl 1 (u.left.map T.s),T.n u.right.kind,T.n u.right.op,T.n u.right.t,T.n u.right.v,.s u.right.name,.sl 6 (u.right.args.map exT)] 0),(11,.t (.sl 1 (u.left.map T.s))),(12,.i (u.left.map T.s).length),(13,.i k)]) (fun k=>full p n q seen (g.set (zam (zdB (g.vis0++g.top.own) g.low) g.top (u.left.take k)).1)) ⟨rfl,ht0,rfl,rfl⟩ (fun k hlt ha=>?_) (fun ha=>?_)
  ·have hx:=at_s hlt
   have hno:=hwl _ (qad hlt)
   have g1:=zcp (f:=(zdB (g.vis0++g.top.own) g.low)) hlt ha.1
   have g2:=zbe (f:=(zdB (g.vis0++g.top.own) g.low)) hlt ha.1
   obtain⟨ha1,ha2,ha3,ha4⟩:=ha
   generalize (zam (zdB (g.vis0++g.top.own) g.low) g.top (u.left.take k)).1=st at*
   generalize u.left[k]=x at*
   have hk:=hset ha2
   have hdn:=ha2.done
   have hz:((zdB (g.vis0++g.top.own) g.low) st x).2=if x∈g.vis0++g.top.own then(if x∈g.low\/x∈st.done then 7 else 0) else 6:=rfl
   have hz1:((zdB (g.vis0++g.top.own) g.low) st x).1=st.zdi x:=rfl
   have hok:=ha2.zdi hno
   have hl1:(st.defs.map T.s).length=st.defs.length:=qaa _
   have hma:(st.defs++[x]).map T.s=st.defs.map T.s++[T.s x]:=by simp
   generalize hfx:(zdB (g.vis0++g.top.own) g.low) st x=fx at*
   repeat' (first|refine wkt ?_|refine wka ?_|refine wkD ?_|refine wk ?_|exact wkc|intro hc|refine wk2 ?_ ?_|refine wsx ?_|refine wms ?_|refine wsy ?_ ?_|(apply TO.ziW zag;(iterate 9 exact rfl);(exact qbr _);(iterate 4 exact rfl);(simp only[qam,qaD];omega);exact rfl)|fail)
   all_goals simp only[Ch.vis,Ch.zkh,Ch.zna,Ch.zu4]at*
   all_goals first
    | ((repeat' (first|refine zab.panic ?_|refine wk ?_|fail));apply retS;(first|assumption|decide);(clear hx;first|grind|grind [orE]);(first|exact leB|exact Nat.le_refl _|(simp[Ch.len];done)|(simp[Ch.len];omega)))
    | (refine zab.zat hlt ⟨by rw[g2];clear hx;grind,by rw[g2,hz1];exact hok,by rw[g2,hz1];exact ha3,by rw[g2,hz1];simp[Lv.zdi,ha4];omega⟩ ?_ (by rw[g2,hz1];simp only[g,full,Ch.set,Ch.heap,Lv.zdi,nmB,rowB,hma];rfl)
       repeat' (first|exact trivial|refine qaf rfl ?_|fail))
  ·obtain⟨ha1,ha2,ha3,ha4⟩:=ha
   rw[qah]at*
   have hk:=hset ha2
   have hs:=zf7 p hp n q seen hse hsn node u.left.length (g.set (zam (zdB (g.vis0++g.top.own) g.low) g.top u.left).1) hk u.right hwe hex
   have hvis:Ch.vis (g.set (zam (zdB (g.vis0++g.top.own) g.low) g.top u.left).1)=g.vis0++g.top.own:=by simp only[Ch.vis,Ch.zkh,Ch.zna,ha3]
   rw[hvis,<-hml]at hs
   rw[<-hml]
   unfold exC at hs
   generalize zd9 p seen node (g.vis0++g.top.own) ((u.left.map T.s).length:Int) u.right=z at*
   generalize zam (zdB (g.vis0++g.top.own) g.low) g.top u.left=st at*
   repeat' (first|refine wkt ?_|refine wka ?_|refine wkD ?_|refine wk ?_|exact wkc|intro hc|refine wk2 ?_ ?_|refine wsx ?_|refine wms ?_|refine wsy ?_ ?_|refine wss hs ?_ ?_|fail)
   ·exact zlD (by clear hs;rw[ha1];simp[orE,hc]) rfl rfl rfl rfl
   ·(apply retB;assumption;(clear hs;rw[ha1];simp[orE]);exact rfl)
end Go.Proofs.YtpnnpgbaiobbjaaGreatDoor
