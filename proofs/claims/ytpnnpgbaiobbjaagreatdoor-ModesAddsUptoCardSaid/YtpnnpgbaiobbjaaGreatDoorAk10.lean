import Derived.Test.YtpnnpgbaiobbjaaGreatDoorAk9
set_option linter.all false
namespace Go.TL
open Go
section rules
variable {P:Program}{n:Nat}{env:Env}{H:Heap}{K:TK}{all:Array Oper}{rest:List Oper}{tab:Tab}{q:Bool}
variable {d:Nat}{ty:TypeId}{pos:String}{aft:Array Edge}
theorem TO.zpR(hT:zaA P tab){t e:TypeId}{i:TyI}{x:Operand}(hd:Nat.ble (d+1) n=true)(ht:tab.get t=some i)(hk:i.k= .slice e)(hx:env.val x=some (.t (.v (.slice none 0 0))))
  (k:TO q P n all rest ((d,.t (.v (.int .i64 0)))::env) H K):TO q P n all (⟨some d,.call { callee:=.builtin .cap,args:=#[x],argTypes:=#[t] },ty,pos,aft,none⟩::rest) env H K:=
 TO.op hd (fun m ac h1 h2 h3=>⟨.int .i64 0,fun w' hw'=>by
  simp[execOp,resolve,invoke,builtin,Builtin.cap_,underlying,(hT t i ht).slice hk,(h3.val hx).v_eq,goInt],.t _ _ (.v _)⟩) k
theorem TO.zrG(hT:zaA P tab){t e:TypeId}{i ie:TyI}{x z:Operand}{ik:IntKind}(hd:Nat.ble (d+1) n=true)(ht:tab.get t=some i)(hk:i.k= .slice e)(he:tab.get e=some ie)
  (hx:env.val x=some (.t (.v (.slice none 0 0))))(hz:env.val z=some (.t (.v (.int ik 0))))
  (k:TO q P n all rest ((d,.t (.v (.slice none 0 0)))::env) H K):TO q P n all (⟨some d,.slice t x none (some z) none,ty,pos,aft,none⟩::rest) env H K:=
 TO.op hd (fun m ac g1 g2 g3=>by
  refine⟨.slice none 0 0,fun w' hw'=>?_,.t _ _ (.v _)⟩
  have:=zcz (P:=P) hT ht hk he none 0 0 none (some (ac.eval z)) 0 0 w' (.inl ⟨rfl,rfl⟩) (.inr ⟨ik,by rw[(g3.val hz).v_eq];rfl⟩) (qag _) (qag _)
  simp only[qcQ,Option.map_none,ite_self]at this
  simp[execOp,(g3.val hx).v_eq,this]) k
theorem TO.zrF(hT:zaA P tab){t e:TypeId}{i ie:TyI}{x z:Operand}{sz id off len:Nat}{ik:IntKind}(hd:Nat.ble (d+1) n=true)(ht:tab.get t=some i)(hk:i.k= .slice e)(he:tab.get e=some ie)
  (hx:env.val x=some (.ms sz id off len))(hz:env.val z=some (.t (.v (.int ik 0))))
  (k:TO q P n all rest ((d,.ms sz id off 0)::env) H K):TO q P n all (⟨some d,.slice t x none (some z) none,ty,pos,aft,none⟩::rest) env H K:=
 TO.zom hT hd ht hk he hx (b:=0) hz (qaK _) k
end rules
end Go.TL
namespace Go.TL
open Go
theorem zkr(k:Nat)(ts:List T):zad k [.cells (ts.map .t)]=true:=by
 simp[zad,Blk.under,zou]
end Go.TL
namespace Go.Proofs.YtpnnpgbaiobbjaaGreatDoor
open Go Go.TL
attribute [local irreducible] TR TO Then zao RetK Sound zab Kf GG zaZ
abbrev zD:List T:=[.v (str []),.v (.int .i64 0),.v (.slice none 0 0)]
theorem zo1(c:Nat)(h1:1≤c)(h2:c≤3000000000):Sound Tryz.prog 164 [.t (.v (.slice none 0 0)),.i c] [] (fun r H'=>r= .ret (.ms 3 0 0 0)/\H'=[.cells (zaX zD c)]):=by
 refine so Tryz.func164 ?_
 repeat' (first|refine wk ?_|exact wkc|intro hc|refine wk2 ?_ ?_|(apply TO.zpR zag;(iterate 4 exact rfl))|(apply TO.zrG zag;(iterate 6 exact rfl))|(apply TO.zky zag (c:=c) (ik':=.i64);(iterate 6 exact rfl);kernel_rfl;exact rfl;exact rfl;omega;omega;exact rfl)|(apply TO.zrF zag;(iterate 6 exact rfl))|fail)
 exact zweo
theorem zmE:Pure Tryz.prog 164 [.t (.v (.slice none 0 0)),.i 0] (.t (.v (.slice none 0 0))):=by
 refine so Tryz.func164 ?_
 repeat' (first|refine wk ?_|exact wkc|intro hc|refine wk2 ?_ ?_|(apply TO.zpR zag;(iterate 4 exact rfl))|fail)
 exact wkr
theorem zmm(d:Decl):(zaa d).cells.length=3:=rfl
abbrev dls (l:List Decl):T:=.sl 3 (l.map zaa)
def zaL(l:List Decl):List T:=((l.map zaa).map T.cells).flatten
theorem zbd(l:List Decl):(zaL l).length=l.length*3:=by
 have:=(zcO (sz:=3) (l.map zaa) (fun e he=>by obtain⟨d,_,rfl⟩:=qa4.1 he;rfl)).1
 rw[qaa]at this
 exact this
theorem zfo(a b:List Decl):zaL (a++b)=zaL a++zaL b:=by simp[zaL]
theorem zpS{α:Type}{ls:List (List α)}{k:Nat}(h:k<ls.length):(ls.take (k+1)).flatten.length=(ls.take k).flatten.length+ls[k].length/\(ls.take (k+1)).flatten.length≤ls.flatten.length:=by
 constructor
 ·rw[qaA h,qbz,qae];simp
 ·conv=>rhs;rw[<-qaS (k+1) ls]
  rw[qbz,qae];omega
theorem zvs{α:Type}{ls:List (List α)}{k:Nat}(h:k<ls.length):(ls.take (k+1)).flatten=(ls.take k).flatten++ls[k]:=by
 rw[qaA h,qbz];simp
theorem znC{ls:List (List Decl)}{k:Nat}(h:k<ls.length):(ls.map dls)[k]?=some (dls ls[k]):=by simp[h]
theorem zgB(ls:List (List Decl))(hl:ls.length≤1000000)(hn:ls.flatten.length≤3000000000)(h1:1≤ls.flatten.length):
  Sound Tryz.prog 108 [.t (.sl 1 (ls.map dls))] [] (fun r H'=>r= .ret (.ms 3 0 0 ls.flatten.length)/\H'=[.cells ((zaL ls.flatten).map .t)]):=by
 have hml:(ls.map dls).length=ls.length:=qaa _
 refine so Tryz.func108 ?_
 repeat' (first|refine wk ?_|exact wkc|intro hc|refine wk2 ?_ ?_|fail)
 refine TR.zal ls.length (fun _=>True) (fun k=>[(0,.t (.sl 1 (ls.map dls))),(3,.i ((ls.take k).flatten.length:Nat)),(9,.t (.sl 1 (ls.map dls))),(10,.i ls.length),(11,.i k)]) (fun _=>[]) trivial (fun k hlt _=>?_) (fun _=>?_) ⟨rfl,rfl,rfl,by rw[<-hml];rfl,rfl,trivial⟩
 ·obtain⟨f1,f2⟩:=zpS hlt
  have hx:=znC hlt
  have hm2:(ls[k].map zaa).length=ls[k].length:=qaa _
  generalize ls[k]=a at hx f1 hm2
  repeat' (first|refine wk ?_|exact wkc|intro hc|refine wk2 ?_ ?_|fail)
  exact zab.zat hlt trivial ⟨rfl,by rw[f1];simp only[qaa];rfl,rfl,rfl,rfl,trivial⟩
 ·rw[qah]
  repeat' (first|refine wk ?_|exact wkc|intro hc|refine wk2 ?_ ?_|(apply TO.zpP (tl:=(List.replicate ls.flatten.length zD).flatten) (zo1 ls.flatten.length h1 hn);(iterate 3 exact rfl);exact Les.refl _;exact rfl)|fail)
  refine TR.zal ls.length (fun _=>True) (fun k=>[(6,.ms 3 0 0 (ls.take k).flatten.length),(25,.t (.sl 1 (ls.map dls))),(26,.i ls.length),(27,.i k)]) (fun k=>[.cells (mixC (zaL (ls.take k).flatten) zD (ls.flatten.length-(ls.take k).flatten.length))]) trivial (fun k hlt _=>?_) (fun _=>?_) ⟨rfl,rfl,by rw[<-hml];rfl,rfl,trivial⟩
  ·obtain⟨f1,f2⟩:=zpS hlt
   have f3:=zvs hlt
   have hx:=znC hlt
   have hm2:(ls[k].map zaa).length=ls[k].length:=qaa _
   have hfit:0+((ls.take k).flatten.length+(ls[k].map zaa).length)*3≤(mixC (zaL (ls.take k).flatten) zD (ls.flatten.length-(ls.take k).flatten.length)).length:=by
    rw[zn9,zbd,hm2]
    show _≤_+_*3
    omega
   have hsp:[Blk.cells (mixC (zaL (ls.take k).flatten) zD (ls.flatten.length-(ls.take k).flatten.length))].set 0 (.cells (splice (mixC (zaL (ls.take k).flatten) zD (ls.flatten.length-(ls.take k).flatten.length)) (0+(ls.take k).flatten.length*3) ((((ls[k].map zaa).map T.cells).flatten).map .t)))=
     [Blk.cells (mixC (zaL (ls.take (k+1)).flatten) zD (ls.flatten.length-(ls.take (k+1)).flatten.length))]:=by
    have e:=zd0 (zaL (ls.take k).flatten) (zaL ls[k]) zD (ls.flatten.length-(ls.take k).flatten.length) ls[k].length (0+(ls.take k).flatten.length*3) (by omega) (by rw[zbd];omega) (zbd _)
    refine congrArg (fun c=>[Blk.cells c]) (e.trans ?_)
    rw[f3,zfo,qae]
    congr 1
    omega
   generalize hb1:(ls.take (k+1)).flatten=b1 at*
   generalize (ls.take k).flatten=b0 at*
   generalize ls[k]=a at*
   repeat' (first|refine wk ?_|exact wkc|intro hc|refine wk2 ?_ ?_|(apply TO.zpE zag;(iterate 12 exact rfl);exact hfit;exact hsp)|fail)
   exact zab.zat hlt trivial ⟨by rw[hb1,f1,<-hm2];rfl,rfl,rfl,rfl,trivial⟩ (by rw[hb1])
  ·rw[qah,qbH,zhY]
   repeat' (first|refine wk ?_|exact wkc|intro hc|refine wk2 ?_ ?_|fail)
   exact zweo
def flat:Ex->List Ex
 | .mk k o t v n l=>.mk k o t v n l::(l.attach.map fun x=>flat x.1).flatten
decreasing_by
 have:=qbi x.2
 simp;omega
def flats(l:List Ex):List Ex:=(l.map flat).flatten
theorem zcD(e:Ex):flat e=e::flats e.args:=by
 cases e
 rw[flat];simp[flats,Ex.args]
inductive Out where
 | go
 | jump (c:Code) (H:Heap)
 | panic (v:SV) (H:Heap)
def zbc(f:List Ex->Ex->Out):List Ex->List Ex->Out
 | _,[]=>.go
 | pre,x::l=>match f pre x with
   | .go=>zbc f (pre++[x]) l
   | o=>o
theorem zde(f:List Ex->Ex->Out):∀(a b pre:List Ex),zbc f pre (a++b)=match zbc f pre a with
  | .go=>zbc f (pre++a) b
  | o=>o
 | [],b,pre=>by simp[zbc]
 | x::a,b,pre=>by
   simp only[qbt,zbc]
   cases f pre x with
   | go=>simp only[];rw[zde f a b (pre++[x])];simp
   | jump c H=>rfl
   | panic v H=>rfl
structure zjA where
 L0:Nat
 Hb:List Ex->Heap
 lp:LoopState->Option Code->Blk
 f:List Ex->Ex->Out
def zjA.ok(S:zjA):Prop:=
 (∀pre,(S.Hb pre).length=S.L0/\zad (S.L0+1) (S.Hb pre)=true)/\(∀st pe,(S.lp st pe).under (S.L0+1)=true)/\
 ∀pre x,match S.f pre x with
  | .go=>True
  | .jump c H=>H.length=S.L0/\zad (S.L0+1) H=true
  | .panic v H=>v.under (S.L0+1)=true/\H.length=S.L0/\zad (S.L0+1) H=true
def zdq(S:zjA)(pre xs:List Ex)(r:Res)(H:Heap):Prop:=
 match zbc S.f pre xs with
 | .go=>r= .ret (.b true)/\H=S.Hb (pre++xs)++[S.lp .ready none]
 | .jump c H0=>r= .ret (.b false)/\H=H0++[S.lp .done (some c)]
 | .panic v H0=>r= .panic v/\H=H0++[S.lp .busy none]
theorem zek(a b:List Ex):flats (a++b)=flats a++flats b:=by simp[flats]
theorem ze4(l:List Ex){j:Nat}(h:j<l.length):flats l=flats (l.take j)++(flat l[j]++flats (l.drop (j+1))):=by
 have:l=l.take j++([l[j]]++l.drop (j+1)):=by
  rw[List.singleton_append,<-qbl h,qaS]
 conv=>lhs;rw[this]
 rw[zek,zek]
 simp[flats]
theorem zf9(l:List Ex){j:Nat}(h:j<l.length):flats (l.take (j+1))=flats (l.take j)++flat l[j]:=by
 rw[qaA h,zek];simp[flats]
theorem zsL(e:Ex):0<(flat e).length:=by rw[zcD];simp
theorem zk3:∀l:List Ex,l.length≤(flats l).length
 | []=>qaK _
 | x::l=>by
   have h1:=zk3 l
   have:=zsL x
   simp only[flats,qaj,qa9,qae,qam]at h1⊢
   omega
theorem zdU(e:Ex):(flat e).length=wEx e:=by
 generalize hn:wEx e=n
 induction n using Nat.strongRecOn generalizing e with
 | ind n ih=>
   have h:∀l:List Ex,(∀x∈l,wEx x<n)->(flats l).length=(l.map wEx).sum:=by
    intro l
    induction l with
    | nil=>intro _;rfl
    | cons x l ihl=>
      intro hx
      have h1:=ihl fun y hy=>hx y (qar _ hy)
      have h2:=ih (wEx x) (hx x qas) x rfl
      simp only[flats,qaj,qa9,qae,qao]at h1⊢
      omega
   rw[zcD,qam,h e.args (fun x hx=>by have:=zbP hx;omega)]
   rw[zjy]at hn
   omega
theorem zap{k:Nat}:∀ {a b:Heap},zad k a=true->zad k b=true->zad k (a++b)=true
 | [],b,_,h=>h
 | x::a,b,h1,h2=>by
   simp only[zad,qaz]at h1
   simp[zad,h1.1,zap h1.2 h2]
theorem zdG{S:zjA}(h:S.ok):∀(xs pre:List Ex),match zbc S.f pre xs with
  | .go=>True
  | .jump c H=>H.length=S.L0/\zad (S.L0+1) H=true
  | .panic v H=>v.under (S.L0+1)=true/\H.length=S.L0/\zad (S.L0+1) H=true
 | [],pre=>by simp[zbc]
 | x::xs,pre=>by
   have h2:=h.2.2 pre x
   simp only[zbc]
   cases hq:S.f pre x with
   | go=>exact zdG h xs (pre++[x])
   | jump c H=>rw[hq]at h2;exact h2
   | panic v H=>rw[hq]at h2;exact h2
theorem zgF{S:zjA}(h:S.ok)(pre xs:List Ex):Within (S.L0+1) (zdq S pre xs):=by
 have ho:=zdG h xs pre
 have one:∀st pe,zad (S.L0+1) [S.lp st pe]=true:=fun st pe=>by simp[zad,h.2.1]
 constructor
 ·intro v H' hr
  unfold zdq at hr
  split at hr
  ·obtain⟨h1,rfl⟩:=hr
   cases h1
   exact⟨rfl,by simp[(h.1 _).1],zap (h.1 _).2 (one _ _)⟩
  ·rename_i c H0 hq
   rw[hq]at ho
   obtain⟨h1,rfl⟩:=hr
   cases h1
   exact⟨rfl,by simp[ho.1],zap ho.2 (one _ _)⟩
  ·obtain⟨h1,_⟩:=hr;cases h1
 ·intro v H' hr
  unfold zdq at hr
  split at hr
  ·obtain⟨h1,_⟩:=hr;cases h1
  ·obtain⟨h1,_⟩:=hr;cases h1
  ·rename_i u H0 hq
   rw[hq]at ho
   obtain⟨h1,rfl⟩:=hr
   cases h1
   exact⟨ho.1,by simp[ho.2.1],zap ho.2.2 (one _ _)⟩
set_option maxHeartbeats 1000000 in
theorem zoV (S:zjA) (hS:S.ok) (whole:List Ex) (hW:whole.length≤1000000000) (hY:∀pre x post,whole=pre++x::post->zhk Tryz.prog S.L0 (.t (exT x)) (S.Hb pre++[S.lp .ready none]) (zdq S pre [x])):
  ∀(m:Nat) (e:Ex),wEx e≤m->∀(pre post:List Ex),whole=pre++(flat e++post)->Sound Tryz.prog 96 [.t (exT e),.yl S.L0] (S.Hb pre++[S.lp .ready none]) (zdq S pre (flat e)):=by
 intro m
 induction m with
 | zero=>intro e he;have:=zcn e;omega
 | succ m ih0=>
   intro e he pre post hw
   have ih:∀x∈e.args,∀(pre post:List Ex),whole=pre++(flat x++post)->Sound Tryz.prog 96 [.t (exT x),.yl S.L0] (S.Hb pre++[S.lp .ready none]) (zdq S pre (flat x)):=
    fun x hx=>ih0 x (by have:=zbP hx;omega)
   clear ih0
   have hN:(S.Hb pre++[S.lp .ready none]).length=S.L0+1:=by simp[(hS.1 _).1]
   have hbu:∀pre,zad (S.L0+1) (S.Hb pre++[S.lp .ready none])=true:=fun pre=>zap (hS.1 _).2 (by simp[zad,hS.2.1])
   have hy:=hY pre e (flats e.args++post) (by rw[hw,zcD];simp)
   have hflat:=zcD e
   rw[zay]at hy⊢
   have hll:e.args.length≤1000000000:=by
    have h1:=zk3 e.args
    have h2:=congrArg List.length hw
    simp[hflat]at h2
    omega
   generalize hl:e.args=l at ih hflat hll
   have hC:exC e=[T.n e.kind,T.n e.op,T.n e.t,T.n e.v,.s e.name,.sl 6 (l.map exT)]:=by rw[<-hl];rfl
   rw[hC]at hy⊢
   have hml:(l.map exT).length=l.length:=qaa _
   generalize hG:S.Hb pre++[S.lp .ready none]=G at hy hN⊢
   have hGu:zad (S.L0+1) G=true:=by rw[<-hG];exact hbu pre
   refine so Tryz.func96 ?_
   repeat' (first|refine wu ?_|exact wkc|intro hc|refine wk2 ?_ ?_|fail)
   have hGt:G.take (S.L0+1)=G:=qaX (by omega)
   have hGd:G.drop (S.L0+1)=[]:=qa7 (by omega)
   refine TO.zv6 (S.L0+1) (arg:=.t (.ag [T.n e.kind,T.n e.op,T.n e.t,T.n e.v,.s e.name,.sl 6 (l.map exT)])) hy (zgF hS pre [_]) rfl rfl rfl rfl (qcg _) (by omega) hGt hGu ?_ ?_
   ·intro u H' hr
    simp only[zdq,zbc]at hr
    rw[hGd,qaQ]
    cases hf:S.f pre e with
    | panic v0 H0=>rw[hf]at hr;cases hr.1
    | jump c H0=>
      rw[hf]at hr
      obtain⟨h1,rfl⟩:=hr
      cases h1
      have ho:=hS.2.2 pre e
      rw[hf]at ho
      repeat' (first|refine wu ?_|exact wkc|intro hc|refine wk2 ?_ ?_|fail)
      refine RetK.at (v:=.b false) (S.L0+1) rfl (Le.of_eq rfl) (by omega) (by simp[ho.1]) rfl (zap ho.2 (by simp[zad,hS.2.1])) ?_
      simp[zdq,hflat,zbc,hf]
    | go=>
      rw[hf]at hr
      obtain⟨h1,rfl⟩:=hr
      cases h1
      repeat' (first|refine wu ?_|exact wkc|intro hc|refine wk2 ?_ ?_|fail)
      refine TR.zal l.length (fun j=>zbc S.f (pre++[e]) (flats (l.take j))= .go) (fun j=>[(14,.i j),(13,.i l.length),(12,.t (.sl 6 (l.map exT))),(1,.yl S.L0),(4,.b false)])
       (fun j=>S.Hb (pre++[e]++flats (l.take j))++[S.lp .ready none]) (by simp[flats,zbc]) (fun j hlt hsc=>?_) (fun hsc=>?_) ⟨rfl,by rw[<-hml];rfl,rfl,rfl,rfl,trivial⟩ (by simp[flats])
      ·have hGj:(S.Hb (pre++[e]++flats (l.take j))++[S.lp .ready none]).length=S.L0+1:=by simp[(hS.1 _).1]
       have hGjd:(S.Hb (pre++[e]++flats (l.take j))++[S.lp .ready none]).drop (S.L0+1)=[]:=qa7 (by omega)
       have hx:=zed hlt
       have hw':whole=(pre++[e]++flats (l.take j))++(flat l[j]++(flats (l.drop (j+1))++post)):=by
        rw[hw,hflat,ze4 l hlt];simp
       have hs:=ih l[j] (qad hlt) _ _ hw'
       rw[zay]at hs
       repeat' (first|refine wu ?_|exact wkc|intro hc|refine wk2 ?_ ?_|fail)
       refine TO.zgR (S.L0+1) hs (zgF hS _ _) rfl rfl rfl ⟨Le.of_eq rfl,Le.refl _,trivial⟩ (by simp[unders,SV.under,qbo]) (by omega) (qaX (by omega)) (hbu _) ?_ ?_
       ·intro u H2 hr2
        have hout:=zdG hS (flat l[j]) (pre++[e]++flats (l.take j))
        simp only[zdq]at hr2
        rw[hGjd,qaQ]
        cases ho:zbc S.f (pre++[e]++flats (l.take j)) (flat l[j]) with
        | panic v0 H0=>rw[ho]at hr2;cases hr2.1
        | jump c H0=>
          rw[ho]at hr2 hout
          obtain⟨h1,rfl⟩:=hr2
          cases h1
          repeat' (first|refine wu ?_|exact wkc|intro hc|refine wk2 ?_ ?_|fail)
          refine RetK.at (v:=.b false) (S.L0+1) rfl (Le.of_eq rfl) (by omega) (by simp[hout.1]) rfl (zap hout.2 (by simp[zad,hS.2.1])) ?_
          have:zbc S.f pre (flat e)= .jump c H0:=by
           exact zwdj
          simp[zdq,this]
        | go=>
          rw[ho]at hr2
          obtain⟨h1,rfl⟩:=hr2
          cases h1
          repeat' (first|refine wu ?_|exact wkc|intro hc|refine wk2 ?_ ?_|fail)
          refine zab.zat hlt ?_ ⟨rfl,rfl,rfl,rfl,rfl,trivial⟩ (by rw[zf9 l hlt];simp)
          rw[zf9 l hlt,zde,hsc]
          exact ho
       ·intro u H2 hr2
        have hout:=zdG hS (flat l[j]) (pre++[e]++flats (l.take j))
        simp only[zdq]at hr2
        rw[hGjd,qaQ]
        cases ho:zbc S.f (pre++[e]++flats (l.take j)) (flat l[j]) with
        | panic v0 H0=>
          rw[ho]at hr2 hout
          obtain⟨h1,rfl⟩:=hr2
          cases h1
          repeat' (first|refine wu ?_|exact wkc|intro hc|refine wk2 ?_ ?_|fail)
          refine zab.panic ?_
          repeat' (first|refine wu ?_|exact wkc|intro hc|refine wk2 ?_ ?_|fail)
          refine RetK.atP (S.L0+1) ?_ ?_ hout.1 ?_ ?_
          ·omega
          ·simp[hout.2.1]
          ·exact zap hout.2.2 (by simp[zad,hS.2.1])
          have:zbc S.f pre (flat e)= .panic u H0:=by
           exact zwdj
          simp[zdq,this]
        | jump c H0=>rw[ho]at hr2;cases hr2.1
        | go=>rw[ho]at hr2;cases hr2.1
      ·have hGj:(S.Hb (pre++[e]++flats (l.take l.length))++[S.lp .ready none]).length=S.L0+1:=by simp[(hS.1 _).1]
       repeat' (first|refine wu ?_|exact wkc|intro hc|refine wk2 ?_ ?_|fail)
       refine RetK.at (v:=.b true) (S.L0+1) rfl (Le.of_eq rfl) (by omega) hGj rfl (hbu _) ?_
       have:zbc S.f pre (flat e)= .go:=by
        rw[hflat,zbc,hf]
        simp only[]
        rw[qah]at hsc
        exact hsc
       simp only[zdq,this]
       exact⟨trivial,by rw[hflat];simp⟩
   ·intro u H' hr
    simp only[zdq,zbc]at hr
    rw[hGd,qaQ]
    cases hf:S.f pre e with
    | panic v0 H0=>
      have ho:=hS.2.2 pre e
      rw[hf]at hr ho
      obtain⟨h1,rfl⟩:=hr
      cases h1
      repeat' (first|refine wu ?_|exact wkc|intro hc|refine wk2 ?_ ?_|fail)
      refine RetK.atP (S.L0+1) ?_ ?_ ho.1 ?_ ?_
      ·omega
      ·simp[ho.2.1]
      ·exact zap ho.2.2 (by simp[zad,hS.2.1])
      simp[zdq,hflat,zbc,hf]
    | jump c H0=>rw[hf]at hr;cases hr.1
    | go=>rw[hf]at hr;cases hr.1
def lpB(fn n:Nat)(env:Env)(ps:Array Tmp)(assign body:Code)(st:LoopState)(pe:Option Code):Blk:=.loop fn st pe n env ps assign body
theorem zcN(e:Ex):Pure Tryz.prog 44 [.t (exT e)] (.fn 95 [.cp (exC e) 0]):=by
 rw[zay]
 refine so Tryz.func44 ?_
 repeat' (first|refine wu ?_|exact wkc|intro hc|refine wk2 ?_ ?_|fail)
 exact wkr
def zku(S:zjA)(xs:List Ex)(r:Res)(H:Heap):Prop:=
 match zbc S.f [] xs with
 | .go=>r= .ret (.tup [])/\H=S.Hb xs++[S.lp .ready none]
 | .jump c H0=>r= .ret (.tup [])/\H=H0++[S.lp .done (some c)]
 | .panic v H0=>r= .panic v/\H=H0++[S.lp .busy none]
theorem zmr(S:zjA)(hS:S.ok)(e:Ex)(hW:wEx e≤1000000000)(hY:∀pre x post,flat e=pre++x::post->zhk Tryz.prog S.L0 (.t (exT x)) (S.Hb pre++[S.lp .ready none]) (zdq S pre [x])):
  Sound Tryz.prog 95 [.yl S.L0,.cp (exC e) 0] (S.Hb []++[S.lp .ready none]) (zku S (flat e)):=by
 have hs:=zoV S hS (flat e) (by rw[zdU];exact hW) hY (wEx e) e (qag _) [] [] (by simp)
 rw[zay]at hs
 have hout:=zdG hS (flat e) []
 have hHb:=hS.1
 have hlp:=hS.2.1
 unfold exC at*
 refine so Tryz.func95 ?_
 repeat' (first|refine wu ?_|exact wkc|intro hc|refine wk2 ?_ ?_|fail)
 refine TO.zvp hs rfl rfl rfl ⟨Le.refl _,Le.refl _,trivial⟩ ?_ ?_
 ·intro u H2 hr
  simp only[zdq]at hr
  cases ho:zbc S.f [] (flat e) with
  | panic v0 H0=>rw[ho]at hr;cases hr.1
  | jump c H0=>
    rw[ho]at hr hout
    obtain⟨h1,rfl⟩:=hr
    cases h1
    repeat' (first|refine wu ?_|exact wkc|intro hc|refine wk2 ?_ ?_|fail)
    refine RetK.atN (v:=.tup []) (S.L0+1) rfl (Le.of_eq rfl) (by simp[(hHb _).1]) (by simp[hout.1]) rfl (zap hout.2 (by simp[zad,hlp])) ?_
    simp only[zku,ho]
    (first|exact⟨trivial,rfl⟩|exact⟨trivial,trivial⟩)
  | go=>
    rw[ho]at hr
    obtain⟨h1,rfl⟩:=hr
    cases h1
    repeat' (first|refine wu ?_|exact wkc|intro hc|refine wk2 ?_ ?_|fail)
    refine RetK.atN (v:=.tup []) (S.L0+1) rfl (Le.of_eq rfl) (by simp[(hHb _).1]) (by simp[(hHb _).1]) rfl (zap (hHb _).2 (by simp[zad,hlp])) ?_
    simp only[zku,ho]
    (first|exact⟨trivial,rfl⟩|exact⟨trivial,trivial⟩)
 ·intro u H2 hr
  simp only[zdq]at hr
  cases ho:zbc S.f [] (flat e) with
  | panic v0 H0=>
    rw[ho]at hr hout
    obtain⟨h1,rfl⟩:=hr
    cases h1
    repeat' (first|refine wu ?_|exact wkc|intro hc|refine wk2 ?_ ?_|fail)
    refine RetK.atP (S.L0+1) ?_ ?_ hout.1 ?_ ?_
    ·simp[(hHb _).1]
    ·simp[hout.2.1]
    ·exact zap hout.2.2 (by simp[zad,hlp])
    simp only[zku,ho]
    (first|exact⟨trivial,rfl⟩|exact⟨trivial,trivial⟩)
  | jump c H0=>rw[ho]at hr;cases hr.1
  | go=>rw[ho]at hr;cases hr.1
def zvg(L0:Nat)(lb:Blk)(Hb:List Ex->Heap)(f:List Ex->Ex->Out)(pre:List Ex)(x:Ex):TK
 | .normal,_,H=>f pre x= .go/\H.take L0=Hb (pre++[x])/\H[L0]?=some lb
 | .ret,_,H=>∃H0,f pre x= .jump .ret H0/\H.take L0=H0/\H[L0]?=some lb
 | .exit i,_,H=>∃H0,f pre x= .jump (.exit i) H0/\H.take L0=H0/\H[L0]?=some lb
 | .panic v,_,H=>∃H0,f pre x= .panic v H0/\H.take L0=H0/\H[L0]?=some lb
def AsgK(P:Program)(n L0:Nat)(lr lb:Blk)(body:Code)(Hb:List Ex->Heap)(f:List Ex->Ex->Out)(pre:List Ex)(x:Ex):TK
 | .normal,env,H=>H[L0]?=some lr/\TR P n body env (H.set L0 lb) (zvg L0 lb Hb f pre x)
 | _,_,_=>False
theorem zd4{α:Type}{H:List α}{L:Nat}{a b:α}(h:H[L]?=some a):(H.set L b).take (L+1)=H.take L++[b]:=by
 have hl:=(qab.1 h).1
 rw[qaA (by simpa using hl),List.take_set,List.set_eq_of_length_le (by simp;omega)]
 simp
theorem TR.zdF{n:Nat}{g:Operand}{p:Tmp}{assign body:Code}{env:Env}{H:Heap}{K:TK}(e:Ex)(Hb:List Ex->Heap)(f:List Ex->Ex->Out)(hg:env.val g=some (.fn 95 [.cp (exC e) 0]))(hW:wEx e≤1000000000)
  (h0:Hb []=H)(hp:Nat.ble (p+1) n=true)(henv:(env.all fun x=>x.2.under (H.length+1))=true)(hHb:∀pre,(Hb pre).length=H.length/\zad (H.length+1) (Hb pre)=true)
  (hf:∀pre x,match f pre x with
    | .go=>True
    | .jump c H1=>H1.length=H.length/\zad (H.length+1) H1=true
    | .panic v H1=>v.under (H.length+1)=true/\H1.length=H.length/\zad (H.length+1) H1=true)
  (round:∀fn pre x post,flat e=pre++x::post->TR Tryz.prog n assign ((p,.t (.ag (exC x)))::env) (Hb pre++[lpB fn n env #[p] assign body .ready none]) (AsgK Tryz.prog n H.length (lpB fn n env #[p] assign body .ready none) (lpB fn n env #[p] assign body .busy none) body Hb f pre x))
  (fin:∀fn,match zbc f [] (flat e) with
    | .go=>K .normal env (Hb (flat e)++[.dead])
    | .jump .ret H1=>K .ret env (H1++[.dead])
    | .jump (.exit i) H1=>K (.exit i) env (H1++[.dead])
    | .jump _ _=>False
    | .panic v H1=>K (.panic v) env (H1++[lpB fn n env #[p] assign body .busy none])):TR Tryz.prog n (.rangeFunc g #[p] assign body) env H K:=by
 refine TR.rangeFunc hg fun fn hfn=>?_
 have fin:=fin fn
 have hS:zjA.ok ⟨H.length,Hb,lpB fn n env #[p] assign body,f⟩:=by
  refine⟨hHb,fun st pe=>?_,fun pre x=>hf pre x⟩
  exact henv
 have hpl:∀pre:List Ex,(Hb pre).length=H.length:=fun pre=>(hHb pre).1
 have:=zmr ⟨H.length,Hb,lpB fn n env #[p] assign body,f⟩ hS e hW ?_
 ·simp only[h0]at this
  refine Sound.mono this fun r H' hr=>?_
  simp only[zku]at hr
  cases ho:zbc f [] (flat e) with
  | go=>
    rw[ho]at hr fin
    obtain⟨rfl,rfl⟩:=hr
    simp only[zpw]
    refine⟨fn,.ready,none,n,env,#[p],assign,body,?_,by simp,?_⟩
    ·rw[<-hpl (flat e)];simp[lpB]
    ·have:(Hb (flat e)++[lpB fn n env #[p] assign body LoopState.ready none]).set H.length .dead=Hb (flat e)++[.dead]:=by rw[<-hpl (flat e)];simp
     rw[this];exact fin
  | jump c H1=>
    have hl:=zdG hS (flat e) []
    rw[ho]at hr fin
    simp only[ho]at hl
    obtain⟨rfl,rfl⟩:=hr
    simp only[zpw]
    refine⟨fn,.done,some c,n,env,#[p],assign,body,?_,by simp,?_⟩
    ·rw[<-hl.1];simp[lpB]
    ·have:(H1++[lpB fn n env #[p] assign body LoopState.done (some c)]).set H.length .dead=H1++[.dead]:=by rw[<-hl.1];simp
     simp only[this]
     cases c <;> first|exact fin|exact fin.elim
  | panic v H1=>
    rw[ho]at hr fin
    obtain⟨rfl,rfl⟩:=hr
    exact fin
 ·intro pre x post hw
  have hid:(Hb pre++[lpB fn n env #[p] assign body .ready none])[H.length]?=some (.loop fn .ready none n env #[p] assign body):=by rw[<-hpl pre];simp[lpB]
  refine zhk.of hfn hid hp ?_
  have h1:=round fn pre x post hw
  rw[zay]
  refine TR.mono h1 fun te env2 H2 h2=>?_
  cases te with
  | normal=>
    obtain⟨h3,h4⟩:=h2
    refine⟨fn,none,n,env,#[p],assign,body,h3,?_⟩
    refine TR.mono h4 fun te env3 H3 h5=>?_
    have hN:(Hb pre++[lpB fn n env #[p] assign body .ready none]).length=H.length+1:=by simp[hpl]
    have hun:∀st pe,zad (H.length+1) [lpB fn n env #[p] assign body st pe]=true:=fun st pe=>by simp only[zad,Bool.and_true];exact henv
    cases te with
    | normal=>
      obtain⟨g1,g2,g3⟩:=h5
      refine⟨fn,.busy,none,n,env,#[p],assign,body,g3,?_,?_,?_⟩
      ·rw[hN];exact(qab.1 g3).1
      ·rw[hN,zd4 g3,g2];exact zap (hHb _).2 (hun _ _)
      ·exact zwdi
    | ret=>
      obtain⟨H0,g1,g2,g3⟩:=h5
      have g4:=hf pre x
      rw[g1]at g4
      refine⟨fn,.busy,none,n,env,#[p],assign,body,g3,?_,?_,?_⟩
      ·rw[hN];exact(qab.1 g3).1
      ·exact zwfn
      ·exact zwdi
    | exit i=>
      obtain⟨H0,g1,g2,g3⟩:=h5
      have g4:=hf pre x
      rw[g1]at g4
      refine⟨fn,.busy,none,n,env,#[p],assign,body,g3,?_,?_,?_⟩
      ·rw[hN];exact(qab.1 g3).1
      ·exact zwfn
      ·exact zwdi
    | panic v=>
      obtain⟨H0,g1,g2,g3⟩:=h5
      have g4:=hf pre x
      rw[g1]at g4
      have e3:H3.take (H.length+1)=H0++[lpB fn n env #[p] assign body .busy none]:=by
       have hl:=(qab.1 g3)
       rw[qaA hl.1,g2,hl.2]
      refine⟨?_,?_,?_,?_⟩
      ·rw[hN];exact g4.1
      ·rw[hN];exact(qab.1 g3).1
      ·rw[hN,e3];exact zap g4.2.2 (hun _ _)
      ·rw[hN,e3]
       simp only[zdq,zbc,g1]
       (first|exact⟨trivial,rfl⟩|exact⟨trivial,trivial⟩)
  | ret=>exact h2.elim
  | exit i=>exact h2.elim
  | panic v=>exact h2.elim
def za0:Ex->Int
 | .mk _ _ _ _ _ l=>(l.attach.map fun x=>za0 x.1).foldl max 0+1
decreasing_by
 have:=qbi x.2
 simp;omega
theorem zf4(e:Ex):za0 e=(e.args.map za0).foldl max 0+1:=by cases e;rw[za0];simp[Ex.args]
theorem zep(b:Int):∀(l:List Int) (a:Int),a≤b->(∀x∈l,x≤b)->l.foldl max a≤b
 | [],a,h,_=>h
 | x::l,a,h,h2=>zep b l _ (by have:=h2 x qas;omega) (fun y hy=>h2 y (qar _ hy))
theorem zeo:∀(l:List Int) (a:Int),a≤l.foldl max a
 | [],a=>Int.le_refl _
 | x::l,a=>by have:=zeo l (max a x);simp only[qaU];omega
theorem zoX(e:Ex):1≤za0 e/\za0 e≤wEx e:=by
 generalize hn:wEx e=n
 induction n using Nat.strongRecOn generalizing e with
 | ind n ih=>
   rw[zf4]
   have h1:=zeo (e.args.map za0) 0
   have h2:(e.args.map za0).foldl max 0≤(n:Int)-1:=by
    refine zep _ _ _ (by have:=zcn e;omega) fun y hy=>?_
    obtain⟨x,hx,rfl⟩:=qa4.1 hy
    have:=zbP hx
    have:=(ih (wEx x) (by omega) x rfl).2
    omega
   omega
theorem zb0{α:Type}{l:List α}{k:Nat}(h:k<l.length):l.take (k+1)=l.take k++[l[k]]:=qaA h
theorem zkW:∀(m:Nat) (e:Ex),wEx e≤m->wEx e≤1000000000->Pure Tryz.prog 259 [.t (exT e)] (.i (za0 e)):=by
 intro m
 induction m with
 | zero=>intro e he;have:=zcn e;omega
 | succ m ih0=>
   intro e he hb
   have ih:∀x∈e.args,Pure Tryz.prog 259 [.t (exT x)] (.i (za0 x)):=fun x hx=>ih0 x (by have:=zbP hx;omega) (by have:=zbP hx;omega)
   clear ih0
   have hll:=zhj e
   have hdl:∀x∈e.args,za0 x≤1000000000:=fun x hx=>by have:=(zoX x).2;have:=zbP hx;omega
   rw[zf4,zay]
   unfold exC
   generalize e.args=l at ih hll hdl⊢
   have hml:(l.map exT).length=l.length:=qaa _
   refine so Tryz.func259 ?_
   repeat' (first|refine wu ?_|exact wkc|intro hc|refine wk2 ?_ ?_|fail)
   refine TR.zal l.length (fun _=>True) (fun j=>[(3,.i (((l.take j).map za0).foldl max 0)),(7,.t (.sl 6 (l.map exT))),(8,.i l.length),(9,.i j)]) (fun _=>[]) trivial (fun j hlt _=>?_) (fun _=>?_) ⟨rfl,rfl,by rw[<-hml];rfl,rfl,trivial⟩
   ·have hx:=zed hlt
    have hs:=ih l[j] (qad hlt)
    rw[zay]at hs
    have hk:((l.take (j+1)).map za0).foldl max 0=max (((l.take j).map za0).foldl max 0) (za0 l[j]):=by rw[zb0 hlt];simp only[qal,qaj,qay,qbm,qaU,qcL]
    generalize l[j]=x at hx hs hk
    unfold exC at hx hs
    repeat' (first|refine wu ?_|exact wkc|intro hc|refine wk2 ?_ ?_|refine wv hs ?_|fail)
    exact zab.zat hlt trivial (by(try dsimp only);rw[hk];exact⟨rfl,rfl,rfl,rfl,trivial⟩)
   ·rw[qah]
    have h1:=zep 1000000000 (l.map za0) 0 (by omega) (fun y hy=>by obtain⟨x,hx,rfl⟩:=qa4.1 hy;exact hdl x hx)
    have h2:=zeo (l.map za0) 0
    repeat' (first|refine wu ?_|exact wkc|intro hc|refine wk2 ?_ ?_|fail)
    exact wkr
theorem zmo(e:Ex)(h:wEx e≤1000000000):Pure Tryz.prog 259 [.t (exT e)] (.i (za0 e)):=zkW _ e (qag _) h
theorem znb(e:Ex)(h:wEx e≤1000000000):Pure Tryz.prog 258 [.t (exT e)] (.i (wEx e)):=by
 have hs:=zcN e
 rw[zay]at hs⊢
 have hc0:exC e=[T.n e.kind,T.n e.op,T.n e.t,T.n e.v,.s e.name,.sl 6 (e.args.map exT)]:=rfl
 have hfl:=zdU e
 rw[hc0]at hs⊢
 refine so Tryz.func258 ?_
 repeat' (first|refine wkb ?_|refine wk ?_|exact wkc|intro hc|refine wk2 ?_ ?_|refine wv hs ?_|fail)
 refine TR.zdF e (fun pre=>[.cells [.i pre.length]]) (fun _ _=>.go) rfl h rfl rfl rfl (fun _=>⟨rfl,rfl⟩) (fun _ _=>trivial) (fun fn pre x post hw=>?_) (fun fn=>?_)
 ·have hl:pre.length<wEx e:=by rw[<-hfl,hw];simp
  refine TR.skip ⟨rfl,?_⟩
  repeat' (first|refine wkb ?_|refine wk ?_|exact wkc|intro hc|refine wk2 ?_ ?_|fail)
  exact⟨rfl,by simp,rfl⟩
 ·have:∀(l pre:List Ex),zbc (fun _ _=>Out.go) pre l= .go:=by
   intro l
   induction l with
   | nil=>intro _;rfl
   | cons x l ih=>intro pre;simp[zbc,ih]
  rw[this,<-hfl]
  repeat' (first|refine wkb ?_|refine wk ?_|exact wkc|intro hc|refine wk2 ?_ ?_|fail)
  exact wkr
end Go.Proofs.YtpnnpgbaiobbjaaGreatDoor
