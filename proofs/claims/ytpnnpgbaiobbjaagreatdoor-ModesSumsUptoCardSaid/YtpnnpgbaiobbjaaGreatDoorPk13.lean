import Derived.Test.YtpnnpgbaiobbjaaGreatDoorPz
import Derived.Test.YtpnnpgbaiobbjaaGreatDoorPk11
import Derived.Test.YtpnnpgbaiobbjaaGreatDoorPk12
set_option linter.unusedSimpArgs false
set_option linter.unusedVariables false
namespace Go.Proofs.YtpnnpgbaiobbjaaGreatDoor
open Go Go.TL
attribute [local irreducible] TR TO Then zam RetK Sound zab Kf GG zaX
def zaQ:Ex->Int
 | .mk _ _ _ _ _ l=>(l.attach.map fun x=>zaQ x.1).foldl max 0+1
decreasing_by
 have:=qa9 x.2
 simp;omega
theorem zeo(e:Ex):zaQ e=(e.args.map zaQ).foldl max 0+1:=by cases e;rw[zaQ];simp[Ex.args]
theorem zd3(b:Int):∀(l:List Int) (a:Int),a≤b->(∀x∈l,x≤b)->l.foldl max a≤b
 | [],a,h,_=>h
 | x::l,a,h,h2=>zd3 b l _ (by have:=h2 x qaD;omega) (fun y hy=>h2 y (qaA _ hy))
theorem zd2:∀(l:List Int) (a:Int),a≤l.foldl max a
 | [],a=>Int.le_refl _
 | x::l,a=>by have:=zd2 l (max a x);simp only[qaY];omega
theorem zn7(e:Ex):1≤zaQ e/\zaQ e≤wEx e:=by
 generalize hn:wEx e=n
 induction n using Nat.strongRecOn generalizing e with
 | ind n ih=>
   rw[zeo]
   have h1:=zd2 (e.args.map zaQ) 0
   have h2:(e.args.map zaQ).foldl max 0≤(n:Int)-1:=by
    refine zd3 _ _ _ (by have:=zcp e;omega) fun y hy=>?_
    obtain⟨x,hx,rfl⟩:=qbf.1 hy
    have:=zbR hx
    have:=(ih (wEx x) (by omega) x rfl).2
    omega
   omega
theorem zbQ{α:Type}{l:List α}{k:Nat}(h:k<l.length):l.take (k+1)=l.take k++[l[k]]:=qar h
theorem zkw:∀(m:Nat) (e:Ex),wEx e≤m->wEx e≤1000000000->Pure Tryz.prog 259 [.t (exT e)] (.i (zaQ e)):=by
 intro m
 induction m with
 | zero=>intro e he;have:=zcp e;omega
 | succ m ih0=>
   intro e he hb
   have ih:∀x∈e.args,Pure Tryz.prog 259 [.t (exT x)] (.i (zaQ x)):=fun x hx=>ih0 x (by have:=zbR hx;omega) (by have:=zbR hx;omega)
   clear ih0
   have hll:=zjX e
   have hdl:∀x∈e.args,zaQ x≤1000000000:=fun x hx=>by have:=(zn7 x).2;have:=zbR hx;omega
   rw[zeo,zaz]
   unfold exC
   generalize e.args=l at ih hll hdl⊢
   have hml:(l.map exT).length=l.length:=qaa _
   refine so Tryz.func259 ?_
   repeat' (first|refine wu ?_|exact wkc|intro hc|refine wk2 ?_ ?_|fail)
   refine TR.zak l.length (fun _=>True) (fun j=>[(3,.i (((l.take j).map zaQ).foldl max 0)),(7,.t (.sl 6 (l.map exT))),(8,.i l.length),(9,.i j)]) (fun _=>[]) trivial (fun j hlt _=>?_) (fun _=>?_) ⟨rfl,rfl,by rw[<-hml];rfl,rfl,trivial⟩
   ·have hx:=zeU hlt
    have hs:=ih l[j] (qad hlt)
    rw[zaz]at hs
    have hk:((l.take (j+1)).map zaQ).foldl max 0=max (((l.take j).map zaQ).foldl max 0) (zaQ l[j]):=by rw[zbQ hlt];simp only[qan,qak,qay,qbd,qaY,qcF]
    generalize l[j]=x at hx hs hk
    unfold exC at hx hs
    repeat' (first|refine wu ?_|exact wkc|intro hc|refine wk2 ?_ ?_|refine wv hs ?_|fail)
    exact zab.zat hlt trivial (by(try dsimp only);rw[hk];exact⟨rfl,rfl,rfl,rfl,trivial⟩)
   ·rw[qag]
    have h1:=zd3 1000000000 (l.map zaQ) 0 (by omega) (fun y hy=>by obtain⟨x,hx,rfl⟩:=qbf.1 hy;exact hdl x hx)
    have h2:=zd2 (l.map zaQ) 0
    repeat' (first|refine wu ?_|exact wkc|intro hc|refine wk2 ?_ ?_|fail)
    exact wkr
theorem zlW(e:Ex)(h:wEx e≤1000000000):Pure Tryz.prog 259 [.t (exT e)] (.i (zaQ e)):=zkw _ e (qae _) h
theorem zmD(e:Ex)(h:wEx e≤1000000000):Pure Tryz.prog 258 [.t (exT e)] (.i (wEx e)):=by
 have hs:=zcz e
 rw[zaz]at hs⊢
 have hc0:exC e=[T.n e.kind,T.n e.op,T.n e.t,T.n e.v,.s e.name,.sl 6 (e.args.map exT)]:=rfl
 have hfl:=zep e
 rw[hc0]at hs⊢
 refine so Tryz.func258 ?_
 repeat' (first|refine wkb ?_|refine wk ?_|exact wkc|intro hc|refine wk2 ?_ ?_|refine wv hs ?_|fail)
 refine TR.zdo e (fun pre=>[.cells [.i pre.length]]) (fun _ _=>.go) rfl h rfl rfl rfl (fun _=>⟨rfl,rfl⟩) (fun _ _=>trivial) (fun fn pre x post hw=>?_) (fun fn=>?_)
 ·have hl:pre.length<wEx e:=by rw[<-hfl,hw];simp
  refine TR.skip ⟨rfl,?_⟩
  repeat' (first|refine wkb ?_|refine wk ?_|exact wkc|intro hc|refine wk2 ?_ ?_|fail)
  exact⟨rfl,by simp,rfl⟩
 ·have:∀(l pre:List Ex),za5 (fun _ _=>Out.go) pre l= .go:=by
   intro l
   induction l with
   | nil=>intro _;rfl
   | cons x l ih=>intro pre;simp[za5,ih]
  rw[this,<-hfl]
  repeat' (first|refine wkb ?_|refine wk ?_|exact wkc|intro hc|refine wk2 ?_ ?_|fail)
  exact wkr
def bit(c:UInt8):Bool:=decide ((c.toNat:Int)=48) || decide ((c.toNat:Int)=49)
abbrev bitT (c:UInt8):T:=.v (.bool (decide ((c.toNat:Int)=49)))
abbrev zoO (l:Str):T:=.sl 1 (l.map bitT)
theorem zst(p:UInt8->Bool):∀(l:Str) (c:UInt8),l[(l.takeWhile p).length]?=some c->p c=false
 | [],c,h=>by simp at h
 | a::l,c,h=>by
   by_cases hp:p a=true
   ·simp only[qba,hp,if_true,qap,qco]at h
    exact zst p l c h
   ·simp only[qba,hp]at h
    simp at h
    subst h
    simpa using hp
theorem zqG(p:UInt8->Bool):∀(l:Str),(l.takeWhile p).length≤l.length
 | []=>qae _
 | a::l=>by
   simp only[qba]
   split
   ·have:=zqG p l;simp;omega
   ·simp
theorem zki(h l:Str)(hs:h.length≤1000)(hl:l.length≤1000):Pure Tryz.prog 325 [.t (.ag [zoO h,zoO l])] (.i (if l.length=0 then 5 else if 64<h.length+l.length then 3 else 0)):=by
 have h1:(h.map bitT).length=h.length:=qaa _
 have h2:(l.map bitT).length=l.length:=qaa _
 refine so Tryz.func325 ?_
 repeat' (first|refine wu ?_|exact wkc|intro hc|refine wk2 ?_ ?_|fail)
 ·rw[if_pos (by omega)];exact wkr
 ·rw[if_neg (by omega),if_pos (by omega)];exact wkr
 ·rw[if_neg (by omega),if_neg (by omega)];exact wkr
theorem zfl(s:Str)(hs:s.length≤1000):Pure Tryz.prog 324 [.s s] (.tup [.t (zoO (if s.all bit then s else[])),.b (s.all bit)]):=by
 refine so Tryz.func324 ?_
 repeat' (first|refine wk ?_|exact wkc|intro hc|refine wk2 ?_ ?_|fail)
 refine TR.tail 1 4 rfl ?_
 refine TR.zak s.length (fun k=>(s.take k).all bit=true) (fun k=>[(0,.s s),(7,.i s.length),(8,.i k),(4,.sl 1 ((s.take k).map bitT) 0)]) (fun k=>[.tail ((s.take k).map bitT).length]) rfl (fun k hlt ha=>?_) (fun ha=>?_)
 ·have hx:=qac hlt
  have htk:=qar hlt
  have hm:=qad hlt
  generalize s[k]=c at hx htk hm
  have hmk:((s.take k).map bitT).length≤1000:=by simp;omega
  repeat' (first|refine wk ?_|exact wkc|intro hc|refine wk2 ?_ ?_|fail)
  all_goals first
   | (refine zab.zat hlt (by rw[htk,qbC,ha];simp[bit];omega) ?_ ?_
      ·rw[htk,qan]
       simp only[qak,qay,bitT, *]
       exact⟨rfl,rfl,rfl,rfl,trivial⟩
      ·rw[htk,qan,qai];rfl)
   | (have h0:s.all bit=false:=qbO.2 ⟨c,hm,by simp[bit];omega⟩
      rw[h0]
      simp only[Bool.false_eq_true,if_false,qay]
      exact wkr)
   | (exfalso;simp_all;done)
 ·rw[qag]at ha⊢
  exact zwep
def zgJ(s:Str):(Str×Str)×Int:=
 if 66<s.length then(([],[]),3) else
 match s.drop (s.takeWhile bit).length with
 | 40::r=>if r.drop (r.takeWhile bit).length=[41]/\r.takeWhile bit≠ [] then((s.takeWhile bit,r.takeWhile bit),0) else(([],[]),5)
 | _=>(([],[]),5)
abbrev zr3 (w:Str×Str):T:=.ag [zoO w.1,zoO w.2]
def cutS(s:Str)(c:UInt8):Str×Str×Bool:=
 if c∈s then(s.takeWhile (· != c),s.drop ((s.takeWhile (· != c)).length+1),true) else(s,[],false)
theorem zfi(c:UInt8):∀(s:Str),Lib.indexByte s c=if c∈s then((s.takeWhile (· != c)).length:Int) else -1
 | []=>by simp[Lib.indexByte]
 | b::l=>by
   have ih:=zfi c l
   unfold Lib.indexByte
   by_cases hb:b=c
   ·subst hb;simp
   ·have h1:(b == c)=false:=by simpa using hb
    have h2:(b != c)=true:=by simpa using hb
    rw[ih]
    by_cases hm:c∈l
    ·have:((l.takeWhile (· != c)).length:Int)≠ -1:=by omega
     simp[h1,h2,hm,this,qba]
    ·have hc:¬c=b:=fun e=>hb e.symm
     simp[h1,hm,hc]
theorem zgE(s:Str)(c:UInt8):Pure Tryz.prog 339 [.s s,.t (.v (.int .u8 c.toNat))] (.i (Lib.indexByte s c)):=by
 refine so Tryz.func339 ?_
 repeat' (first|refine wk ?_|exact wkc|intro hc|refine wk2 ?_ ?_|(apply TO.zgD;exact rfl;exact Tryz.func343;kernel_rfl;kernel_rfl;kernel_rfl;kernel_rfl;exact rfl;exact rfl)|fail)
 refine RetK.pure rfl (Le.of_eq ?_) rfl
 simp[pack]
theorem zmc(s:Str)(c:UInt8):Pure Tryz.prog 337 [.s s,.s [c]] (.i (Lib.indexByte s c)):=by
 refine so Tryz.func337 ?_
 repeat' (first|refine wk ?_|exact wkc|intro hc|refine wk2 ?_ ?_|refine wv (zgE s c) ?_|fail)
 ·subst hc
  rw[show Lib.indexByte [c] c=0 from by simp[Lib.indexByte]]
  exact wkr
 ·exact wkr
theorem zn1(s:Str)(c:UInt8)(hs:s.length≤1000000000):Pure Tryz.prog 333 [.s s,.s [c]] (.tup [.s (cutS s c).1,.s (cutS s c).2.1,.b (cutS s c).2.2]):=by
 have hi:=zmc s c
 rw[zfi]at hi
 by_cases hm:c∈s
 ·rw[if_pos hm]at hi
  have hle:=zqG (· != c) s
  have hlt:(s.takeWhile (· != c)).length<s.length:=by
   refine Nat.lt_of_le_of_ne hle fun e=>?_
   have:∀l:Str,(l.takeWhile (· != c)).length=l.length->c ∉ l:=by
    intro l
    induction l with
    | nil=>simp
    | cons a l ih=>
      intro h
      by_cases ha:(a != c)=true
      ·simp only[qba,ha,if_true,qap]at h
       have:=ih (by omega)
       simp at ha
       simp[this];exact fun e=>ha e.symm
      ·simp[qba,ha]at h
   exact this s e hm
  have htk:s.takeWhile (· != c)=s.take (s.takeWhile (· != c)).length:=by
   conv=>rhs;arg 2;rw[<-qbD (p:=(· != c)) (l:=s)]
   rw[qcG]
  simp only[cutS,hm,if_true]
  rw[htk]
  have hlen:(s.take (s.takeWhile (· != c)).length).length=(s.takeWhile (· != c)).length:=by rw[<-htk]
  rw[hlen]
  generalize (s.takeWhile (· != c)).length=k at hi hlt hle⊢
  clear htk hlen
  refine so Tryz.func333 ?_
  repeat' (first|refine wk ?_|exact wkc|intro hc|refine wk2 ?_ ?_|refine wv hi ?_|(apply TO.zfz (a:=k+1) zah;(iterate 5 exact rfl);omega)|fail)
  exact wkr
 ·rw[if_neg hm]at hi
  simp only[cutS,hm,if_false]
  refine so Tryz.func333 ?_
  repeat' (first|refine wk ?_|exact wkc|intro hc|refine wk2 ?_ ?_|refine wv hi ?_|fail)
  exact wkr
theorem zo4(s:Str)(c:UInt8)(hs:s.length≤1000000000):Pure Tryz.prog 322 [.s s,.s [c]] (.tup [.s (cutS s c).1,.s (cutS s c).2.1,.b (cutS s c).2.2]):=by
 refine so Tryz.func322 ?_
 repeat' (first|refine wk ?_|exact wkc|intro hc|refine wk2 ?_ ?_|refine wv (zn1 s c hs) ?_|fail)
 exact wkr
def endsIn(s:Str)(c:UInt8):Bool:=decide (1≤s.length) && s.drop (s.length-1) == [c]
theorem zkL(s:Str)(c:UInt8)(hs:s.length≤1000000000):Pure Tryz.prog 338 [.s s,.s [c]] (.b (endsIn s c)):=by
 by_cases h1:1≤s.length
 ·obtain⟨k,hk⟩:∃k,s.length=k+1:=⟨s.length-1,by omega⟩
  have hkk:s.length-1=k:=by omega
  have hki:(s.length:Int)-(([c]:Str).length:Int)=(k:Int):=by simp;omega
  refine so Tryz.func338 ?_
  repeat' (first|refine wk ?_|exact wkc|intro hc|refine wk2 ?_ ?_|(apply TO.zfz (a:=k) zah;(iterate 4 exact rfl);exact congrArg (fun z=>some (SV.i z)) hki;omega)|fail)
  all_goals
   refine RetK.pure rfl (Le.of_eq ?_) rfl
   simp only[pack,endsIn,hkk,h1,decide_true,qcH,SV.t.injEq,T.v.injEq,Value.bool.injEq]
   simp[hc]
 ·refine so Tryz.func338 ?_
  repeat' (first|refine wk ?_|exact wkc|intro hc|refine wk2 ?_ ?_|fail)
  all_goals first
   | (exfalso;simp at hc;omega)
   | (refine RetK.pure rfl (Le.of_eq ?_) rfl
      simp[pack,endsIn,h1])
def cutE(s:Str)(c:UInt8):Str×Bool:=if endsIn s c then(s.take (s.length-1),true) else(s,false)
theorem zlT(s:Str)(c:UInt8)(hs:s.length≤1000000000):Pure Tryz.prog 334 [.s s,.s [c]] (.tup [.s (cutE s c).1,.b (cutE s c).2]):=by
 have hf:=zkL s c hs
 cases he:endsIn s c with
 | true=>
   rw[he]at hf
   have h1:1≤s.length:=by simp[endsIn]at he;omega
   obtain⟨k,hk⟩:∃k,s.length=k+1:=⟨s.length-1,by omega⟩
   have hkk:s.length-1=k:=by omega
   have hki:(s.length:Int)-(([c]:Str).length:Int)=(k:Int):=by simp;omega
   simp only[cutE,he,if_true,hkk]
   refine so Tryz.func334 ?_
   repeat' (first|refine wk ?_|exact wkc|intro hc|refine wk2 ?_ ?_|refine wv hf ?_|(apply TO.zew (b:=k) zah;(iterate 4 exact rfl);exact congrArg (fun z=>some (SV.i z)) hki;omega)|fail)
   exact wkr
 | false=>
   rw[he]at hf
   simp only[cutE,he]
   refine so Tryz.func334 ?_
   repeat' (first|refine wk ?_|exact wkc|intro hc|refine wk2 ?_ ?_|refine wv hf ?_|fail)
   exact wkr
theorem zn2(s:Str)(c:UInt8)(hs:s.length≤1000000000):Pure Tryz.prog 323 [.s s,.s [c]] (.tup [.s (cutE s c).1,.b (cutE s c).2]):=by
 refine so Tryz.func323 ?_
 repeat' (first|refine wk ?_|exact wkc|intro hc|refine wk2 ?_ ?_|refine wv (zlT s c hs) ?_|fail)
 exact wkr
theorem zq9(s:Str)(c:UInt8):(cutS s c).1.length≤s.length/\(cutS s c).2.1.length≤s.length:=by
 unfold cutS
 split
 ·exact⟨zqG _ _,by simp⟩
 ·simp
theorem zq8(s:Str)(c:UInt8):(cutE s c).1.length≤s.length:=by
 unfold cutE;split <;> simp
def zf9(s:Str):(Str×Str)×Int:=
 let a:=cutS s 40
 let b:=cutE a.2.1 41
 if 66<s.length then(([],[]),3)
 else if a.2.2=true/\b.2=true/\a.1.all bit=true/\b.1.all bit=true/\b.1.length≠0/\a.1.length+b.1.length≤64 then((a.1,b.1),0) else(([],[]),5)
theorem zk4(s:Str):Pure Tryz.prog 302 [.s s] (.tup [.t (zr3 (zf9 s).1),.i (zf9 s).2]):=by
 by_cases h66:66<s.length
 ·rw[show zf9 s=(([],[]),3) from if_pos h66]
  refine so Tryz.func302 ?_
  repeat' (first|refine wk ?_|exact wkc|intro hc|refine wk2 ?_ ?_|fail)
  exact wkr
 ·have hs:s.length≤1000000000:=by omega
  have hq:zf9 s=if(cutS s 40).2.2=true/\(cutE (cutS s 40).2.1 41).2=true/\(cutS s 40).1.all bit=true/\(cutE (cutS s 40).2.1 41).1.all bit=true/\(cutE (cutS s 40).2.1 41).1.length≠0/\(cutS s 40).1.length+(cutE (cutS s 40).2.1 41).1.length≤64
    then(((cutS s 40).1,(cutE (cutS s 40).2.1 41).1),0) else(([],[]),5):=if_neg h66
  have c1:=zo4 s 40 hs
  have l1:=zq9 s 40
  generalize cutS s 40=a at hq c1 l1
  obtain⟨fr,re,is⟩:=a
  simp only at hq c1 l1
  have c2:=zn2 re 41 (by omega)
  have l2:=zq8 re 41
  generalize cutE re 41=b at hq c2 l2
  obtain⟨bk,cl⟩:=b
  simp only at hq c2 l2
  have c3:=zfl fr (by omega)
  have c4:=zfl bk (by omega)
  have hW:∀ {x:Int},Pure Tryz.prog 302 [.s s] (.tup [.t (zr3 ([],[])),.i 5])->zf9 s=(([],[]),5)->Pure Tryz.prog 302 [.s s] (.tup [.t (zr3 (zf9 s).1),.i (zf9 s).2]):=fun h e=>by rw[e];exact h
  cases is with
  | false=>
    refine hW (x:=0) ?_ (by rw[hq,if_neg (by simp)])
    refine so Tryz.func302 ?_
    repeat' (first|refine wk ?_|exact wkc|intro hc|refine wk2 ?_ ?_|refine wv c1 ?_|refine wv c2 ?_|refine wv c3 ?_|refine wv c4 ?_|fail)
    all_goals exact wkr
  | true=>
    cases cl with
    | false=>
      refine hW (x:=0) ?_ (by rw[hq,if_neg (by simp)])
      refine so Tryz.func302 ?_
      repeat' (first|refine wk ?_|exact wkc|intro hc|refine wk2 ?_ ?_|refine wv c1 ?_|refine wv c2 ?_|refine wv c3 ?_|refine wv c4 ?_|fail)
      all_goals exact wkr
    | true=>
      cases h1:fr.all bit with
      | false=>
        rw[h1]at c3
        refine hW (x:=0) ?_ (by rw[hq,if_neg (by simp[h1])])
        refine so Tryz.func302 ?_
        repeat' (first|refine wk ?_|exact wkc|intro hc|refine wk2 ?_ ?_|refine wv c1 ?_|refine wv c2 ?_|refine wv c3 ?_|refine wv c4 ?_|fail)
        all_goals exact wkr
      | true=>
        rw[h1]at c3
        cases h2:bk.all bit with
        | false=>
          rw[h2]at c4
          refine hW (x:=0) ?_ (by rw[hq,if_neg (by simp[h2])])
          refine so Tryz.func302 ?_
          repeat' (first|refine wk ?_|exact wkc|intro hc|refine wk2 ?_ ?_|refine wv c1 ?_|refine wv c2 ?_|refine wv c3 ?_|refine wv c4 ?_|fail)
          all_goals exact wkr
        | true=>
          rw[if_pos rfl]at c3
          rw[h2,if_pos rfl]at c4
          have c5:=zki fr bk (by omega) (by omega)
          by_cases e1:bk.length=0
          ·rw[if_pos e1]at c5
           refine hW (x:=0) ?_ (by rw[hq,if_neg (by simp[e1])])
           exact zwbs
          ·rw[if_neg e1]at c5
           by_cases e2:64<fr.length+bk.length
           ·rw[if_pos e2]at c5
            refine hW (x:=0) ?_ (by rw[hq,if_neg (by rintro⟨-,-,-,-,-,h⟩;omega)])
            exact zwbs
           ·rw[if_neg e2]at c5
            rw[hq,if_pos ⟨rfl,rfl,h1,h2,e1,by omega⟩]
            exact zwbs
theorem zsI{c:UInt8}(h:bit c=true):c≠40/\c≠41:=by
 refine⟨fun e=>?_,fun e=>?_⟩ <;> (subst e;revert h;decide)
theorem zlY(p:UInt8->Bool)(l:Str):l=l.takeWhile p++l.drop (l.takeWhile p).length:=by
 conv=>lhs;rw[<-qbD (p:=p) (l:=l)]
 congr 1
 conv=>rhs;arg 2;rw[<-qbD (p:=p) (l:=l)]
 rw[qcE]
theorem zfH(p:UInt8->Bool):∀(a:Str) (c:UInt8) (b:Str),a.all p=true->p c=false->(a++c::b).takeWhile p=a
 | [],c,b,_,hc=>by simp[qba,hc]
 | x::a,c,b,h,hc=>by
   simp only[qbw,qav]at h
   simp[qba,h.1,zfH p a c b h.2 hc]
theorem znG(p:UInt8->Bool):∀(l:Str),(l.takeWhile p).all p=true
 | []=>rfl
 | a::l=>by
   by_cases h:p a=true
   ·simp only[qba,h,if_true,qbw,qcH];exact znG p l
   ·simp[qba,h]
def wshape(s h l:Str):Prop:=s=h++40::(l++[41])/\h.all bit=true/\l.all bit=true/\l≠ []
theorem zh5{s h l:Str}(hs:¬66<s.length)(w:wshape s h l):zgJ s=((h,l),0):=by
 obtain⟨rfl,h1,h2,h3⟩:=w
 have e1:(h++40::(l++[41])).takeWhile bit=h:=zfH bit h 40 _ h1 (by decide)
 have e2:(l++[41]).takeWhile bit=l:=zfH bit l 41 [] h2 (by decide)
 unfold zgJ
 rw[if_neg hs,e1,qcE]
 simp only[e2,qcE]
 rw[if_pos ⟨trivial,h3⟩]
theorem zqO{s:Str}(hs:¬66<s.length):(∃h l,wshape s h l)\/zgJ s=(([],[]),5):=by
 unfold zgJ
 rw[if_neg hs]
 split
 ·rename_i r hr
  split
  ·rename_i h
   refine .inl ⟨s.takeWhile bit,r.takeWhile bit,?_,znG _ _,znG _ _,h.2⟩
   have e1:=zlY bit s
   have e2:=zlY bit r
   rw[hr]at e1
   rw[h.1]at e2
   rw[<-e2];exact e1
  ·exact .inr rfl
 ·exact .inr rfl
theorem zh6{s h l:Str}(hs:¬66<s.length)(w:wshape s h l):zf9 s=((h,l),0):=by
 obtain⟨rfl,h1,h2,h3⟩:=w
 have hne:∀(a:Str),a.all bit=true->a.all (· != 40)=true:=fun a ha=>qaw.2 fun c hc=>by
  have:=(zsI (qaw.1 ha c hc)).1
  simpa using this
 have e1:(h++40::(l++[41])).takeWhile (· != 40)=h:=zfH _ h 40 _ (hne h h1) (by decide)
 have e2:cutS (h++40::(l++[41])) 40=(h,l++[41],true):=by
  unfold cutS
  rw[if_pos (by simp),e1]
  have:(h++40::(l++[41])).drop (h.length+1)=l++[41]:=by
   rw[show h++40::(l++[41])=(h++[40])++(l++[41]) from by simp]
   exact List.drop_left' (by simp)
  rw[this]
 have e3:cutE (l++[41]) 41=(l,true):=by
  unfold cutE endsIn
  simp
 have e4:l.length≠0:=fun e=>h3 (qaL e)
 unfold zf9
 simp only[if_neg hs,e2,e3]
 rw[if_pos]
 simp only[qai,qap,qaC]at hs
 exact⟨by trivial,by trivial,h1,h2,e4,by omega⟩
theorem zqP{s:Str}(hs:¬66<s.length):(∃h l,wshape s h l)\/zf9 s=(([],[]),5):=by
 unfold zf9
 simp only[if_neg hs]
 split
 ·rename_i h
  obtain⟨h1,h2,h3,h4,h5,h6⟩:=h
  refine .inl ⟨(cutS s 40).1,(cutE (cutS s 40).2.1 41).1,?_,h3,h4,fun e=>h5 (by rw[e];rfl)⟩
  have g1:(cutE (cutS s 40).2.1 41).1++[41]=(cutS s 40).2.1:=by
   generalize (cutS s 40).2.1=r at h2⊢
   unfold cutE at h2⊢
   split
   ·rename_i he
    unfold endsIn at he
    simp only[qav,decide_eq_true_eq,beq_iff_eq]at he
    have:=qaS (r.length-1) r
    rw[he.2]at this
    exact this
   ·rename_i he;rw[if_neg he]at h2;cases h2
  rw[g1]
  clear h2 h3 h4 h5 h6 g1
  unfold cutS at h1⊢
  split
  ·rename_i hm
   have e1:=zlY (· != 40) s
   have hend:∀c,s[(s.takeWhile (· != 40)).length]?=some c->c=40:=fun c hc=>by
    have:=zst (· != 40) s c hc
    simpa using this
   cases hd:s.drop (s.takeWhile (· != 40)).length with
   | nil=>
     rw[hd,qaM]at e1
     rw[e1]at hm
     have:=qaw.1 (znG (· != 40) s) 40 hm
     simp at this
   | cons c r=>
     have hx:s[(s.takeWhile (· != 40)).length]?=some c:=by
      have:=qa2 (xs:=s) (i:=(s.takeWhile (· != 40)).length) (j:=0)
      rw[hd]at this
      simpa using this.symm
     have:=hend c hx
     subst this
     rw[<-List.tail_drop,hd,List.tail_cons,<-hd]
     exact e1
  ·rename_i hm;rw[if_neg hm]at h1;cases h1
 ·exact .inr rfl
theorem zr2(s:Str):zf9 s=zgJ s:=by
 by_cases hs:66<s.length
 ·unfold zf9 zgJ;rw[if_pos hs];simp[hs]
 ·rcases zqO hs with ⟨h,l,w⟩|h
  ·rw[zh5 hs w,zh6 hs w]
  ·rcases zqP hs with ⟨h',l,w⟩|h'
   ·rw[zh5 hs w,zh6 hs w]
   ·rw[h,h']
theorem zk5(s:Str):Pure Tryz.prog 302 [.s s] (.tup [.t (zr3 (zgJ s).1),.i (zgJ s).2]):=by
 rw[<-zr2];exact zk4 s
def letter(c:Int):Bool:=(decide (97≤c) && decide (c≤122)) || (decide (65≤c) && decide (c≤90))
def digit(c:Int):Bool:=decide (48≤c) && decide (c≤57)
def inner(c:Int):Bool:=letter c || digit c || c == 95
abbrev u8 (c:Int):SV:=.t (.v (.int .u8 c))
theorem zd8(c:Int):Pure Tryz.prog 252 [u8 c] (.b (letter c)):=by
 refine so Tryz.func252 ?_
 repeat' (first|refine wk ?_|exact wkc|intro hc|refine wk2 ?_ ?_|fail)
 all_goals try(refine RetK.pure rfl ?_ rfl;exact Le.of_eq (by simp_all [pack,letter] <;> omega))
theorem zlX(c:Int):Pure Tryz.prog 300 [u8 c] (.b (digit c)):=by
 refine so Tryz.func300 ?_
 repeat' (first|refine wk ?_|exact wkc|intro hc|refine wk2 ?_ ?_|fail)
 all_goals try(refine RetK.pure rfl ?_ rfl;exact Le.of_eq (by simp_all [pack,digit] <;> omega))
theorem zmd(c:Int):Pure Tryz.prog 254 [u8 c] (.b (inner c)):=by
 refine so Tryz.func254 ?_
 repeat' (first|refine wk ?_|exact wkc|intro hc|refine wk2 ?_ ?_|refine wb (zd8 _) ?_ ?_|refine wb (zlX _) ?_ ?_|fail)
 all_goals try(refine RetK.pure rfl ?_ rfl;exact Le.of_eq (by simp_all [pack,inner] <;> omega))
def kws:List Str:=[
 [97,115,115,117,109,101],[97,110,100],[97,117,116,111,109,97,116,111,110],[98,111,111,108],[99,111,110,116,105,110,117,101],[100,111],[100,111,110,101],[101,108,115,101],[101,110,100],[101,110,115,117,114,101],[101,118,101,114,121],[102,97,108,115,101],[102,98,121],[105,102],[105,110,116],[108,101,116],[109,101,114,103,101],[109,111,100],[110,111,100,101],[110,111,116],[111,114],[112,114,101],[114,101,116,117,114,110,115],[115,116,97,116,101],[116,101,108],[116,104,101,110],[116,114,117,101],[116,121,112,101],[117,110,108,101,115,115],[117,110,116,105,108],[118,97,114],[119,104,101,110],[120,111,114]]
def keyword(s:Str):Bool:=kws.any fun w=>s == w
set_option maxHeartbeats 4000000 in
theorem zfj (s:Str):Pure Tryz.prog 253 [.s s] (.b (keyword s)):=by
 refine so Tryz.func253 ?_
 repeat' (first|refine wk ?_|exact wkc|intro hc|refine wk2 ?_ ?_|fail)
 all_goals refine RetK.pure rfl ?_ rfl
 all_goals exact Le.of_eq (by simp[keyword,kws,pack, *])
def zkO(c:UInt8):Bool:=inner c.toNat
def zmi(c:UInt8):Bool:=letter c.toNat
def ident(s:Str):Bool:=
 match s with
 | []=>false
 | c::r=>decide (r.length+1≤40) && zmi c && !keyword (c::r) && (c::r).all zkO
theorem zhr(s:Str):Pure Tryz.prog 201 [.s s] (.b (ident s)):=by
 refine so Tryz.func201 ?_
 cases s with
 | nil=>
   repeat' (first|refine wk ?_|exact wkc|intro hc|refine wk2 ?_ ?_|refine wb (zd8 _) ?_ ?_|refine wb (zfj _) ?_ ?_|fail)
   all_goals try(refine RetK.pure rfl ?_ rfl;exact Le.of_eq (by simp_all [pack,ident] <;> omega))
 | cons c r=>
   repeat' (first|refine wk ?_|exact wkc|intro hc|refine wk2 ?_ ?_|refine wb (zd8 _) ?_ ?_|refine wb (zfj _) ?_ ?_|fail)
   all_goals try(refine RetK.pure rfl ?_ rfl;exact Le.of_eq (by simp_all [pack,ident,zmi] <;> omega))
   refine TR.zak (c::r).length (fun k=>((c::r).take k).all zkO=true) (fun k=>[(0,.s (c::r)),(22,.i (c::r).length),(23,.i k)]) (fun _=>[]) rfl (fun k hlt ha=>?_) (fun ha=>?_)
   ·have hx:=qac hlt
    repeat' (first|refine wk ?_|exact wkc|intro hc|refine wk2 ?_ ?_|refine wb (zmd _) ?_ ?_|fail)
    ·refine zab.zat hlt ?_
     rw[qar hlt,qbC,ha]
     simpa [zkO]using hc
    ·refine RetK.pure rfl (Le.of_eq ?_) rfl
     have:(c::r).all zkO=false:=by
      rw[qbO]
      exact⟨_,qad hlt,by simpa [zkO]using hc⟩
     simp only[pack,ident,this]
     simp
   ·repeat' (first|refine wk ?_|exact wkc|intro hc|refine wk2 ?_ ?_|fail)
    rw[qag]at ha
    refine RetK.pure rfl (Le.of_eq ?_) rfl
    simp_all [pack,ident,zmi]
    omega
def inW(v:Int):Bool:=decide (-32768≤v) && decide (v≤32767)
theorem zrr(v:Int):Pure Tryz.prog 256 [.i v] (.b (inW v)):=by
 refine so Tryz.func256 ?_
 repeat' (first|refine wk ?_|exact wkc|intro hc|refine wk2 ?_ ?_|fail)
 all_goals try(refine RetK.pure rfl ?_ rfl;exact Le.of_eq (by simp_all [pack,inW] <;> omega))
abbrev ensT (es:List En):T:=.sl 2 (es.map enT)
def zky(es:List En)(t:Int):En×Bool:=
 if 3≤t/\t-3<es.length then(match es[(t-3).toNat]? with|some e=>(e,true)|none=>(⟨[],[]⟩,false)) else(⟨[],[]⟩,false)
def zcI(es:List En)(t:Int):Int:=
 if t=1 then 2 else if t=2 then 65536 else((zky es t).1.tags.length:Int)
def hasT(es:List En)(t v:Int):Bool:=if t=2 then inW v else decide (0≤v) && decide (v<zcI es t)
theorem zn5(es:List En)(t:I64):Pure Tryz.prog 255 [.t (ensT es),.n t] (.tup [.t (enT (zky es t.1).1),.b (zky es t.1).2]):=by
 obtain⟨t,ht1,ht2⟩:=t
 dsimp only[SV.n]
 refine so Tryz.func255 ?_
 have hl:(es.map enT).length=es.length:=qaa _
 by_cases h:3≤t/\t-3<es.length
 ·obtain⟨h1,h2⟩:=h
  have hlt:(t-3).toNat<es.length:=by omega
  have hx:=zar enT hlt
  repeat' (first|refine wk ?_|exact wkc|intro hc|refine wk2 ?_ ?_|fail)
  simp only[zky,h1,h2,hlt,enT,and_self,if_true,qac]
  exact wkr
 ·repeat' (first|refine wk ?_|exact wkc|intro hc|refine wk2 ?_ ?_|fail)
  all_goals
   simp only[zky,h,enT,if_false]
   exact wkr
theorem zf2(es:List En)(t:I64):Pure Tryz.prog 202 [.t (ensT es),.n t] (.i (zcI es t.1)):=by
 refine so Tryz.func202 ?_
 repeat' (first|refine wk ?_|exact wkc|intro hc|refine wk2 ?_ ?_|refine wv (zn5 es t) ?_|fail)
 ·refine RetK.pure rfl (Le.of_eq ?_) rfl
  simp[pack,zcI,hc]
 ·refine RetK.pure rfl (Le.of_eq ?_) rfl
  simp[pack,zcI,hc]
 ·refine RetK.pure rfl (Le.of_eq ?_) rfl
  simp[pack,zcI, *]
theorem zkM(es:List En)(t v:I64):Pure Tryz.prog 203 [.t (ensT es),.n t,.n v] (.b (hasT es t.1 v.1)):=by
 refine so Tryz.func203 ?_
 repeat' (first|refine wk ?_|exact wkc|intro hc|refine wk2 ?_ ?_|refine wv (zrr v.1) ?_|refine wv (zf2 es t) ?_|fail)
 all_goals
  refine RetK.pure rfl (Le.of_eq ?_) rfl
  simp_all [pack,hasT] <;> omega
def zc0(o:Int):Int:=
 if o=1\/o=3\/o=4\/o=5 then 1 else if o=2\/6≤o/\o≤10 then 2 else if o=11\/o=12 then 3 else if 13≤o/\o≤16 then 4 else 0
def opN(o:Int):Int:=if o=1\/o=2 then 1 else if 3≤o/\o≤16 then 2 else 0
theorem zgs(o:Int):(zc0 o=0/\(o<1\/16<o))\/(zc0 o=1/\(o=1\/o=3\/o=4\/o=5))\/(zc0 o=2/\(o=2\/6≤o/\o≤10))\/(zc0 o=3/\(o=11\/o=12))\/(zc0 o=4/\13≤o/\o≤16):=by
 unfold zc0;repeat' split
 all_goals omega
theorem zk3(o:Int):(opN o=1/\(o=1\/o=2))\/(opN o=2/\3≤o/\o≤16)\/(opN o=0/\(o<1\/16<o)):=by
 unfold opN;repeat' split
 all_goals omega
theorem zma(o:Int):Pure Tryz.prog 244 [.i o] (.tup [.i (zc0 o),.i (opN o)]):=by
 have h1:=zgs o
 have h2:=zk3 o
 generalize zc0 o=a at h1⊢
 generalize opN o=b at h2⊢
 refine so Tryz.func244 ?_
 repeat' (first|refine wk ?_|exact wkc|intro hc|refine wk2 ?_ ?_|fail)
 all_goals
  refine RetK.pure rfl (Le.of_eq ?_) rfl
  simp only[pack,SV.tup.injEq,qa7,SV.t.injEq,T.v.injEq,Value.int.injEq,true_and,and_true]
  omega
abbrev zeA (l:List Int):T:=.sl 1 (l.map T.i)
def okTy(k t0 t:Int):Bool:=if k=1 then decide (t=1) else if k=3 then decide (t=t0) && decide (1≤t) else decide (t=2)
def zbk(o:Int)(ts:List Int):Int×Int:=
 if zc0 o=0 then(0,2) else if(ts.length:Int)≠opN o then(0,9) else if ts.all (okTy (zc0 o) (ts.headD 0)) then(if zc0 o=2 then 2 else 1,0) else(0,10)
theorem zi8{l:List Int}{k:Nat}(h:k<l.length):(l.map T.i)[k]?=some (T.i l[k]):=by simp[h]
theorem zle(o:Int)(ts:List Int):Pure Tryz.prog 166 [.i o,.t (zeA ts)] (.tup [.i (zbk o ts).1,.i (zbk o ts).2]):=by
 refine so Tryz.func166 ?_
 have hl:(ts.map T.i).length=ts.length:=qaa _
 have hk:=zgs o
 have hn:=zk3 o
 repeat' (first|refine wk ?_|exact wkc|intro hc|refine wk2 ?_ ?_|refine wv (zma o) ?_|fail)
 ·rw[show zbk o ts=(0,2) from if_pos hc];exact wkr
 ·rename_i h0
  rw[show zbk o ts=(0,9) from by simp only[zbk,if_neg h0];exact if_pos (by omega)];exact wkr
 ·rename_i h0
  have hlen:(ts.length:Int)=opN o:=by omega
  have hr:zbk o ts=if ts.all (okTy (zc0 o) (ts.headD 0)) then(if zc0 o=2 then 2 else 1,0) else(0,10):=by
   simp only[zbk,if_neg h0];exact if_neg (by omega)
  rw[hr]
  clear hr
  have hx0:(ts.map T.i)[(0:Int).toNat]?=some (T.i (ts.headD 0)):=by
   cases ts with
   | nil=>simp at hlen;omega
   | cons a l=>rfl
  generalize ts.headD 0=t0 at hx0⊢
  generalize zc0 o=k at h0 hk⊢
  refine TR.zak ts.length (fun j=>(ts.take j).all (okTy k t0)=true) (fun j=>[(1,.t (zeA ts)),(6,.i k),(23,.t (zeA ts)),(24,.i ts.length),(25,.i j)]) (fun _=>[]) rfl (fun j hlt ha=>?_) (fun ha=>?_) ⟨rfl,rfl,rfl,by rw[<-hl];rfl,rfl,trivial⟩
  ·have hx:=zi8 hlt
   have htk:=qar hlt
   have hm:=qad hlt
   generalize ts[j]=t at hx htk hm
   repeat' (first|refine wk ?_|exact wkc|intro hc|refine wk2 ?_ ?_|fail)
   all_goals first
    | (refine zab.zat hlt ?_;rw[htk,qbC,ha];simp_all [okTy];done)
    | (refine zab.zat hlt ?_;rw[htk,qbC,ha];simp_all [okTy];omega)
    | (have:ts.all (okTy k t0)=false:=qbO.2 ⟨t,hm,by simp_all [okTy]⟩
       simp only[this];exact wkr)
    | (have:ts.all (okTy k t0)=false:=qbO.2 ⟨t,hm,by simp_all [okTy];omega⟩
       simp only[this];exact wkr)
  ·rw[qag]at ha
   rw[ha]
   repeat' (first|refine wk ?_|exact wkc|intro hc|refine wk2 ?_ ?_|fail)
   ·simp only[hc,if_true];exact wkr
   ·simp only[hc,if_true,if_false];exact wkr
end Go.Proofs.YtpnnpgbaiobbjaaGreatDoor
