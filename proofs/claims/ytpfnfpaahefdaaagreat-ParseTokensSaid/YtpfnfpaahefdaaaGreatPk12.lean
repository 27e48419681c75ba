import Derived.Test.YtpfnfpaahefdaaaGreatPk11
set_option linter.all false
namespace Go.Proofs.YtpfnfpaahefdaaaGreat
open Go Go.TL
attribute [local irreducible] TR TO Then zab RetK Sound zac Kf GG za2
def za4:Ex->Int
 | .mk _ _ _ _ _ l=>(l.attach.map fun x=>za4 x.1).foldl max 0+1
decreasing_by
 have:=qbe x.2
 simp;omega
theorem zdi(e:Ex):za4 e=(e.args.map za4).foldl max 0+1:=by cases e;rw[za4];simp[Ex.args]
theorem zdR(b:Int):∀(l:List Int) (a:Int),a≤b->(∀x∈l,x≤b)->l.foldl max a≤b
 | [],a,h,_=>h
 | x::l,a,h,h2=>zdR b l _ (by have:=h2 x qaC;omega) (fun y hy=>h2 y (qaA _ hy))
theorem zdQ:∀(l:List Int) (a:Int),a≤l.foldl max a
 | [],a=>Int.le_refl _
 | x::l,a=>by have:=zdQ l (max a x);simp only[qbJ];omega
theorem zlo(e:Ex):1≤za4 e/\za4 e≤wEx e:=by
 generalize hn:wEx e=n
 induction n using Nat.strongRecOn generalizing e with
 | ind n ih=>
   rw[zdi]
   have h1:=zdQ (e.args.map za4) 0
   have h2:(e.args.map za4).foldl max 0≤(n:Int)-1:=by
    refine zdR _ _ _ (by have:=ze9 e;omega) fun y hy=>?_
    obtain⟨x,hx,rfl⟩:=qa2.1 hy
    have:=zdX hx
    have:=(ih (wEx x) (by omega) x rfl).2
    omega
   omega
theorem zj2{α:Type}{l:List α}{k:Nat}(h:k<l.length):l.take (k+1)=l.take k++[l[k]]:=qaJ h
theorem zin:∀(m:Nat) (e:Ex),wEx e≤m->wEx e≤1000000000->Pure Tryz.prog 83 [.t (exT e)] (.i (za4 e)):=by
 intro m
 induction m with
 | zero=>intro e he;have:=ze9 e;omega
 | succ m ih0=>
   intro e he hb
   have ih:∀x∈e.args,Pure Tryz.prog 83 [.t (exT x)] (.i (za4 x)):=fun x hx=>ih0 x (by have:=zdX hx;omega) (by have:=zdX hx;omega)
   clear ih0
   have hll:=zk1 e
   have hdl:∀x∈e.args,za4 x≤1000000000:=fun x hx=>by have:=(zlo x).2;have:=zdX hx;omega
   rw[zdi,zao]
   unfold exC
   generalize e.args=l at ih hll hdl⊢
   have hml:(l.map exT).length=l.length:=qad _
   refine so Tryz.func83 ?_
   repeat' (first|refine wu ?_|exact wkc|intro hc|refine wk2 ?_ ?_|fail)
   refine TR.zbv l.length (fun _=>True) (fun j=>[(3,.i (((l.take j).map za4).foldl max 0)),(7,.t (.sl 6 (l.map exT))),(8,.i l.length),(9,.i j)]) (fun _=>[]) trivial (fun j hlt _=>?_) (fun _=>?_) ⟨rfl,rfl,by rw[<-hml];rfl,rfl,trivial⟩
   ·have hx:=zg0 hlt
    have hs:=ih l[j] (qaz hlt)
    rw[zao]at hs
    have hk:((l.take (j+1)).map za4).foldl max 0=max (((l.take j).map za4).foldl max 0) (za4 l[j]):=by rw[zj2 hlt];simp only[qav,qah,qas,qb8,qbJ,List.foldl_nil]
    generalize l[j]=x at hx hs hk
    unfold exC at hx hs
    repeat' (first|refine wu ?_|exact wkc|intro hc|refine wk2 ?_ ?_|refine wv hs ?_|fail)
    exact zac.zb0 hlt trivial (by(try dsimp only);rw[hk];exact⟨rfl,rfl,rfl,rfl,trivial⟩)
   ·rw[qbd]
    have h1:=zdR 1000000000 (l.map za4) 0 (by omega) (fun y hy=>by obtain⟨x,hx,rfl⟩:=qa2.1 hy;exact hdl x hx)
    have h2:=zdQ (l.map za4) 0
    repeat' (first|refine wu ?_|exact wkc|intro hc|refine wk2 ?_ ?_|fail)
    exact wkr
theorem zjq(e:Ex)(h:wEx e≤1000000000):Pure Tryz.prog 83 [.t (exT e)] (.i (za4 e)):=zin _ e (qae _) h
theorem zjT(e:Ex)(h:wEx e≤1000000000):Pure Tryz.prog 82 [.t (exT e)] (.i (wEx e)):=by
 have hs:=zd0 e
 rw[zao]at hs⊢
 have hc0:exC e=[T.n e.kind,T.n e.op,T.n e.t,T.n e.v,.s e.name,.sl 6 (e.args.map exT)]:=rfl
 have hfl:=zkv e
 rw[hc0]at hs⊢
 refine so Tryz.func82 ?_
 repeat' (first|refine wkb ?_|refine wk ?_|exact wkc|intro hc|refine wk2 ?_ ?_|refine wv hs ?_|fail)
 refine TR.zeO e (fun pre=>[.cells [.i pre.length]]) (fun _ _=>.go) rfl h rfl rfl rfl (fun _=>⟨rfl,rfl⟩) (fun _ _=>trivial) (fun fn pre x post hw=>?_) (fun fn=>?_)
 ·have hl:pre.length<wEx e:=by rw[<-hfl,hw];simp
  refine TR.skip ⟨rfl,?_⟩
  repeat' (first|refine wkb ?_|refine wk ?_|exact wkc|intro hc|refine wk2 ?_ ?_|fail)
  exact⟨rfl,by simp,rfl⟩
 ·have:∀(l pre:List Ex),zbx (fun _ _=>Out.go) pre l= .go:=by
   intro l
   induction l with
   | nil=>intro _;rfl
   | cons x l ih=>intro pre;simp[zbx,ih]
  rw[this,<-hfl]
  repeat' (first|refine wkb ?_|refine wk ?_|exact wkc|intro hc|refine wk2 ?_ ?_|fail)
  exact wkr
def bit(c:UInt8):Bool:=decide ((c.toNat:Int)=48) || decide ((c.toNat:Int)=49)
abbrev bitT (c:UInt8):T:=.v (.bool (decide ((c.toNat:Int)=49)))
abbrev zmj (l:Str):T:=.sl 1 (l.map bitT)
theorem zpf(p:UInt8->Bool):∀(l:Str) (c:UInt8),l[(l.takeWhile p).length]?=some c->p c=false
 | [],c,h=>by simp at h
 | a::l,c,h=>by
   by_cases hp:p a=true
   ·simp only[qa4,hp,if_true,qac,qaR]at h
    exact zpf p l c h
   ·simp only[qa4,hp]at h
    simp at h
    subst h
    simpa using hp
theorem znz(p:UInt8->Bool):∀(l:Str),(l.takeWhile p).length≤l.length
 | []=>qae _
 | a::l=>by
   simp only[qa4]
   split
   ·have:=znz p l;simp;omega
   ·simp
theorem zil(h l:Str)(hs:h.length≤1000)(hl:l.length≤1000):Pure Tryz.prog 115 [.t (.ag [zmj h,zmj l])] (.i (if l.length=0 then 5 else if 64<h.length+l.length then 3 else 0)):=by
 have h1:(h.map bitT).length=h.length:=qad _
 have h2:(l.map bitT).length=l.length:=qad _
 refine so Tryz.func115 ?_
 repeat' (first|refine wu ?_|exact wkc|intro hc|refine wk2 ?_ ?_|fail)
 ·rw[if_pos (by omega)];exact wkr
 ·rw[if_neg (by omega),if_pos (by omega)];exact wkr
 ·rw[if_neg (by omega),if_neg (by omega)];exact wkr
theorem zeG(s:Str)(hs:s.length≤1000):Pure Tryz.prog 114 [.s s] (.tup [.t (zmj (if s.all bit then s else[])),.b (s.all bit)]):=by
 refine so Tryz.func114 ?_
 repeat' (first|refine wk ?_|exact wkc|intro hc|refine wk2 ?_ ?_|fail)
 refine TR.tail 1 4 rfl ?_
 refine TR.zbv s.length (fun k=>(s.take k).all bit=true) (fun k=>[(0,.s s),(7,.i s.length),(8,.i k),(4,.sl 1 ((s.take k).map bitT) 0)]) (fun k=>[.tail ((s.take k).map bitT).length]) rfl (fun k hlt ha=>?_) (fun ha=>?_)
 ·have hx:=qab hlt
  have htk:=qaJ hlt
  have hm:=qaz hlt
  generalize s[k]=c at hx htk hm
  have hmk:((s.take k).map bitT).length≤1000:=by simp;omega
  repeat' (first|refine wk ?_|exact wkc|intro hc|refine wk2 ?_ ?_|fail)
  all_goals first
   | (refine zac.zb0 hlt (by rw[htk,qcc,ha];simp[bit];omega) ?_ ?_
      ·rw[htk,qav]
       simp only[qah,qas,bitT, *]
       exact⟨rfl,rfl,rfl,rfl,trivial⟩
      ·rw[htk,qav,qal];rfl)
   | (have h0:s.all bit=false:=List.all_eq_false.2 ⟨c,hm,by simp[bit];omega⟩
      rw[h0]
      simp only[Bool.false_eq_true,if_false,qas]
      exact wkr)
   | (exfalso;simp_all;done)
 ·rw[qbd]at ha⊢
  rw[ha]
  repeat' (first|refine wk ?_|exact wkc|intro hc|refine wk2 ?_ ?_|fail)
  exact wkr
def zgX(s:Str):(Str×Str)×Int:=
 if 66<s.length then(([],[]),3) else
 match s.drop (s.takeWhile bit).length with
 | 40::r=>if r.drop (r.takeWhile bit).length=[41]/\r.takeWhile bit≠ [] then((s.takeWhile bit,r.takeWhile bit),0) else(([],[]),5)
 | _=>(([],[]),5)
abbrev zoK (w:Str×Str):T:=.ag [zmj w.1,zmj w.2]
def cutS(s:Str)(c:UInt8):Str×Str×Bool:=
 if c∈s then(s.takeWhile (· != c),s.drop ((s.takeWhile (· != c)).length+1),true) else(s,[],false)
theorem zeF(c:UInt8):∀(s:Str),Lib.indexByte s c=if c∈s then((s.takeWhile (· != c)).length:Int) else -1
 | []=>by simp[Lib.indexByte]
 | b::l=>by
   have ih:=zeF c l
   unfold Lib.indexByte
   by_cases hb:b=c
   ·subst hb;simp
   ·have h1:(b == c)=false:=by simpa using hb
    have h2:(b != c)=true:=by simpa using hb
    rw[ih]
    by_cases hm:c∈l
    ·have:((l.takeWhile (· != c)).length:Int)≠ -1:=by omega
     simp[h1,h2,hm,this,qa4]
    ·have hc:¬c=b:=fun e=>hb e.symm
     simp[h1,hm,hc]
theorem zfx(s:Str)(c:UInt8):Pure Tryz.prog 122 [.s s,.t (.v (.int .u8 c.toNat))] (.i (Lib.indexByte s c)):=by
 refine so Tryz.func122 ?_
 repeat' (first|refine wk ?_|exact wkc|intro hc|refine wk2 ?_ ?_|(apply TO.zfw;exact rfl;exact Tryz.func126;kernel_rfl;kernel_rfl;kernel_rfl;kernel_rfl;exact rfl;exact rfl)|fail)
 refine RetK.pure rfl (Le.of_eq ?_) rfl
 simp[pack]
theorem zjD(s:Str)(c:UInt8):Pure Tryz.prog 120 [.s s,.s [c]] (.i (Lib.indexByte s c)):=by
 refine so Tryz.func120 ?_
 repeat' (first|refine wk ?_|exact wkc|intro hc|refine wk2 ?_ ?_|refine wv (zfx s c) ?_|fail)
 ·subst hc
  rw[show Lib.indexByte [c] c=0 from by simp[Lib.indexByte]]
  exact wkr
 ·exact wkr
theorem zli(s:Str)(c:UInt8)(hs:s.length≤1000000000):Pure Tryz.prog 118 [.s s,.s [c]] (.tup [.s (cutS s c).1,.s (cutS s c).2.1,.b (cutS s c).2.2]):=by
 have hi:=zjD s c
 rw[zeF]at hi
 by_cases hm:c∈s
 ·rw[if_pos hm]at hi
  have hle:=znz (· != c) s
  have hlt:(s.takeWhile (· != c)).length<s.length:=by
   refine Nat.lt_of_le_of_ne hle fun e=>?_
   have:∀l:Str,(l.takeWhile (· != c)).length=l.length->c ∉ l:=by
    intro l
    induction l with
    | nil=>simp
    | cons a l ih=>
      intro h
      by_cases ha:(a != c)=true
      ·simp only[qa4,ha,if_true,qac]at h
       have:=ih (by omega)
       simp at ha
       simp[this];exact fun e=>ha e.symm
      ·simp[qa4,ha]at h
   exact this s e hm
  have htk:s.takeWhile (· != c)=s.take (s.takeWhile (· != c)).length:=by
   conv=>rhs;arg 2;rw[<-qbw (p:=(· != c)) (l:=s)]
   rw[qch]
  simp only[cutS,hm,if_true]
  rw[htk]
  have hlen:(s.take (s.takeWhile (· != c)).length).length=(s.takeWhile (· != c)).length:=by rw[<-htk]
  rw[hlen]
  generalize (s.takeWhile (· != c)).length=k at hi hlt hle⊢
  clear htk hlen
  refine so Tryz.func118 ?_
  repeat' (first|refine wk ?_|exact wkc|intro hc|refine wk2 ?_ ?_|refine wv hi ?_|(apply TO.zaB (a:=k+1) zaa;(iterate 5 exact rfl);omega)|fail)
  exact wkr
 ·rw[if_neg hm]at hi
  simp only[cutS,hm,if_false]
  refine so Tryz.func118 ?_
  repeat' (first|refine wk ?_|exact wkc|intro hc|refine wk2 ?_ ?_|refine wv hi ?_|fail)
  exact wkr
theorem zmt(s:Str)(c:UInt8)(hs:s.length≤1000000000):Pure Tryz.prog 112 [.s s,.s [c]] (.tup [.s (cutS s c).1,.s (cutS s c).2.1,.b (cutS s c).2.2]):=by
 refine so Tryz.func112 ?_
 repeat' (first|refine wk ?_|exact wkc|intro hc|refine wk2 ?_ ?_|refine wv (zli s c hs) ?_|fail)
 exact wkr
def endsIn(s:Str)(c:UInt8):Bool:=decide (1≤s.length) && s.drop (s.length-1) == [c]
theorem ziu(s:Str)(c:UInt8)(hs:s.length≤1000000000):Pure Tryz.prog 121 [.s s,.s [c]] (.b (endsIn s c)):=by
 by_cases h1:1≤s.length
 ·obtain⟨k,hk⟩:∃k,s.length=k+1:=⟨s.length-1,by omega⟩
  have hkk:s.length-1=k:=by omega
  have hki:(s.length:Int)-(([c]:Str).length:Int)=(k:Int):=by simp;omega
  refine so Tryz.func121 ?_
  repeat' (first|refine wk ?_|exact wkc|intro hc|refine wk2 ?_ ?_|(apply TO.zaB (a:=k) zaa;(iterate 4 exact rfl);exact congrArg (fun z=>some (SV.i z)) hki;omega)|fail)
  all_goals
   refine RetK.pure rfl (Le.of_eq ?_) rfl
   simp only[pack,endsIn,hkk,h1,decide_true,Bool.true_and,SV.t.injEq,T.v.injEq,Value.bool.injEq]
   simp[hc]
 ·refine so Tryz.func121 ?_
  repeat' (first|refine wk ?_|exact wkc|intro hc|refine wk2 ?_ ?_|fail)
  all_goals first
   | (exfalso;simp at hc;omega)
   | (refine RetK.pure rfl (Le.of_eq ?_) rfl
      simp[pack,endsIn,h1])
def cutE(s:Str)(c:UInt8):Str×Bool:=if endsIn s c then(s.take (s.length-1),true) else(s,false)
theorem zjo(s:Str)(c:UInt8)(hs:s.length≤1000000000):Pure Tryz.prog 119 [.s s,.s [c]] (.tup [.s (cutE s c).1,.b (cutE s c).2]):=by
 have hf:=ziu s c hs
 cases he:endsIn s c with
 | true=>
   rw[he]at hf
   have h1:1≤s.length:=by simp[endsIn]at he;omega
   obtain⟨k,hk⟩:∃k,s.length=k+1:=⟨s.length-1,by omega⟩
   have hkk:s.length-1=k:=by omega
   have hki:(s.length:Int)-(([c]:Str).length:Int)=(k:Int):=by simp;omega
   simp only[cutE,he,if_true,hkk]
   refine so Tryz.func119 ?_
   repeat' (first|refine wk ?_|exact wkc|intro hc|refine wk2 ?_ ?_|refine wv hf ?_|(apply TO.zaE (b:=k) zaa;(iterate 4 exact rfl);exact congrArg (fun z=>some (SV.i z)) hki;omega)|fail)
   exact wkr
 | false=>
   rw[he]at hf
   simp only[cutE,he]
   refine so Tryz.func119 ?_
   repeat' (first|refine wk ?_|exact wkc|intro hc|refine wk2 ?_ ?_|refine wv hf ?_|fail)
   exact wkr
theorem zlj(s:Str)(c:UInt8)(hs:s.length≤1000000000):Pure Tryz.prog 113 [.s s,.s [c]] (.tup [.s (cutE s c).1,.b (cutE s c).2]):=by
 refine so Tryz.func113 ?_
 repeat' (first|refine wk ?_|exact wkc|intro hc|refine wk2 ?_ ?_|refine wv (zjo s c hs) ?_|fail)
 exact wkr
theorem znV(s:Str)(c:UInt8):(cutS s c).1.length≤s.length/\(cutS s c).2.1.length≤s.length:=by
 unfold cutS
 split
 ·exact⟨znz _ _,by simp⟩
 ·simp
theorem znU(s:Str)(c:UInt8):(cutE s c).1.length≤s.length:=by
 unfold cutE;split <;> simp
def zfa(s:Str):(Str×Str)×Int:=
 let a:=cutS s 40
 let b:=cutE a.2.1 41
 if 66<s.length then(([],[]),3)
 else if a.2.2=true/\b.2=true/\a.1.all bit=true/\b.1.all bit=true/\b.1.length≠0/\a.1.length+b.1.length≤64 then((a.1,b.1),0) else(([],[]),5)
theorem ziO(s:Str):Pure Tryz.prog 98 [.s s] (.tup [.t (zoK (zfa s).1),.i (zfa s).2]):=by
 by_cases h66:66<s.length
 ·rw[show zfa s=(([],[]),3) from if_pos h66]
  refine so Tryz.func98 ?_
  repeat' (first|refine wk ?_|exact wkc|intro hc|refine wk2 ?_ ?_|fail)
  exact wkr
 ·have hs:s.length≤1000000000:=by omega
  have hq:zfa s=if(cutS s 40).2.2=true/\(cutE (cutS s 40).2.1 41).2=true/\(cutS s 40).1.all bit=true/\(cutE (cutS s 40).2.1 41).1.all bit=true/\(cutE (cutS s 40).2.1 41).1.length≠0/\(cutS s 40).1.length+(cutE (cutS s 40).2.1 41).1.length≤64
    then(((cutS s 40).1,(cutE (cutS s 40).2.1 41).1),0) else(([],[]),5):=if_neg h66
  have c1:=zmt s 40 hs
  have l1:=znV s 40
  generalize cutS s 40=a at hq c1 l1
  obtain⟨fr,re,is⟩:=a
  simp only at hq c1 l1
  have c2:=zlj re 41 (by omega)
  have l2:=znU re 41
  generalize cutE re 41=b at hq c2 l2
  obtain⟨bk,cl⟩:=b
  simp only at hq c2 l2
  have c3:=zeG fr (by omega)
  have c4:=zeG bk (by omega)
  have hW:∀ {x:Int},Pure Tryz.prog 98 [.s s] (.tup [.t (zoK ([],[])),.i 5])->zfa s=(([],[]),5)->Pure Tryz.prog 98 [.s s] (.tup [.t (zoK (zfa s).1),.i (zfa s).2]):=fun h e=>by rw[e];exact h
  cases is with
  | false=>
    refine hW (x:=0) ?_ (by rw[hq,if_neg (by simp)])
    refine so Tryz.func98 ?_
    repeat' (first|refine wk ?_|exact wkc|intro hc|refine wk2 ?_ ?_|refine wv c1 ?_|refine wv c2 ?_|refine wv c3 ?_|refine wv c4 ?_|fail)
    all_goals exact wkr
  | true=>
    cases cl with
    | false=>
      refine hW (x:=0) ?_ (by rw[hq,if_neg (by simp)])
      refine so Tryz.func98 ?_
      repeat' (first|refine wk ?_|exact wkc|intro hc|refine wk2 ?_ ?_|refine wv c1 ?_|refine wv c2 ?_|refine wv c3 ?_|refine wv c4 ?_|fail)
      all_goals exact wkr
    | true=>
      cases h1:fr.all bit with
      | false=>
        rw[h1]at c3
        refine hW (x:=0) ?_ (by rw[hq,if_neg (by simp[h1])])
        refine so Tryz.func98 ?_
        repeat' (first|refine wk ?_|exact wkc|intro hc|refine wk2 ?_ ?_|refine wv c1 ?_|refine wv c2 ?_|refine wv c3 ?_|refine wv c4 ?_|fail)
        all_goals exact wkr
      | true=>
        rw[h1]at c3
        cases h2:bk.all bit with
        | false=>
          rw[h2]at c4
          refine hW (x:=0) ?_ (by rw[hq,if_neg (by simp[h2])])
          refine so Tryz.func98 ?_
          repeat' (first|refine wk ?_|exact wkc|intro hc|refine wk2 ?_ ?_|refine wv c1 ?_|refine wv c2 ?_|refine wv c3 ?_|refine wv c4 ?_|fail)
          all_goals exact wkr
        | true=>
          rw[if_pos rfl]at c3
          rw[h2,if_pos rfl]at c4
          have c5:=zil fr bk (by omega) (by omega)
          by_cases e1:bk.length=0
          ·rw[if_pos e1]at c5
           refine hW (x:=0) ?_ (by rw[hq,if_neg (by simp[e1])])
           exact zwbl
          ·rw[if_neg e1]at c5
           by_cases e2:64<fr.length+bk.length
           ·rw[if_pos e2]at c5
            refine hW (x:=0) ?_ (by rw[hq,if_neg (by rintro⟨-,-,-,-,-,h⟩;omega)])
            exact zwbl
           ·rw[if_neg e2]at c5
            rw[hq,if_pos ⟨rfl,rfl,h1,h2,e1,by omega⟩]
            exact zwbl
theorem zpm{c:UInt8}(h:bit c=true):c≠40/\c≠41:=by
 refine⟨fun e=>?_,fun e=>?_⟩ <;> (subst e;revert h;decide)
theorem zjs(p:UInt8->Bool)(l:Str):l=l.takeWhile p++l.drop (l.takeWhile p).length:=by
 conv=>lhs;rw[<-qbw (p:=p) (l:=l)]
 congr 1
 conv=>rhs;arg 2;rw[<-qbw (p:=p) (l:=l)]
 rw[qbN]
theorem zeU(p:UInt8->Bool):∀(a:Str) (c:UInt8) (b:Str),a.all p=true->p c=false->(a++c::b).takeWhile p=a
 | [],c,b,_,hc=>by simp[qa4,hc]
 | x::a,c,b,h,hc=>by
   simp only[qbr,qat]at h
   simp[qa4,h.1,zeU p a c b h.2 hc]
theorem zk0(p:UInt8->Bool):∀(l:Str),(l.takeWhile p).all p=true
 | []=>rfl
 | a::l=>by
   by_cases h:p a=true
   ·simp only[qa4,h,if_true,qbr,Bool.true_and];exact zk0 p l
   ·simp[qa4,h]
def wshape(s h l:Str):Prop:=s=h++40::(l++[41])/\h.all bit=true/\l.all bit=true/\l≠ []
theorem zgM{s h l:Str}(hs:¬66<s.length)(w:wshape s h l):zgX s=((h,l),0):=by
 obtain⟨rfl,h1,h2,h3⟩:=w
 have e1:(h++40::(l++[41])).takeWhile bit=h:=zeU bit h 40 _ h1 (by decide)
 have e2:(l++[41]).takeWhile bit=l:=zeU bit l 41 [] h2 (by decide)
 unfold zgX
 rw[if_neg hs,e1,qbN]
 simp only[e2,qbN]
 rw[if_pos ⟨trivial,h3⟩]
theorem znG{s:Str}(hs:¬66<s.length):(∃h l,wshape s h l)\/zgX s=(([],[]),5):=by
 unfold zgX
 rw[if_neg hs]
 split
 ·rename_i r hr
  split
  ·rename_i h
   refine .inl ⟨s.takeWhile bit,r.takeWhile bit,?_,zk0 _ _,zk0 _ _,h.2⟩
   have e1:=zjs bit s
   have e2:=zjs bit r
   rw[hr]at e1
   rw[h.1]at e2
   rw[<-e2];exact e1
  ·exact .inr rfl
 ·exact .inr rfl
theorem zgN{s h l:Str}(hs:¬66<s.length)(w:wshape s h l):zfa s=((h,l),0):=by
 obtain⟨rfl,h1,h2,h3⟩:=w
 have hne:∀(a:Str),a.all bit=true->a.all (· != 40)=true:=fun a ha=>qaw.2 fun c hc=>by
  have:=(zpm (qaw.1 ha c hc)).1
  simpa using this
 have e1:(h++40::(l++[41])).takeWhile (· != 40)=h:=zeU _ h 40 _ (hne h h1) (by decide)
 have e2:cutS (h++40::(l++[41])) 40=(h,l++[41],true):=by
  unfold cutS
  rw[if_pos (by simp),e1]
  have:(h++40::(l++[41])).drop (h.length+1)=l++[41]:=by
   rw[show h++40::(l++[41])=(h++[40])++(l++[41]) from by simp]
   exact List.drop_left' (by simp)
  rw[this]
 have e3:cutE (l++[41]) 41=(l,true):=by
  unfold cutE endsIn
  simp
 have e4:l.length≠0:=fun e=>h3 (qay e)
 unfold zfa
 simp only[if_neg hs,e2,e3]
 rw[if_pos]
 simp only[qal,qac,qaf]at hs
 exact⟨by trivial,by trivial,h1,h2,e4,by omega⟩
theorem znH{s:Str}(hs:¬66<s.length):(∃h l,wshape s h l)\/zfa s=(([],[]),5):=by
 unfold zfa
 simp only[if_neg hs]
 split
 ·rename_i h
  obtain⟨h1,h2,h3,h4,h5,h6⟩:=h
  refine .inl ⟨(cutS s 40).1,(cutE (cutS s 40).2.1 41).1,?_,h3,h4,fun e=>h5 (by rw[e];rfl)⟩
  have g1:(cutE (cutS s 40).2.1 41).1++[41]=(cutS s 40).2.1:=by
   generalize (cutS s 40).2.1=r at h2⊢
   unfold cutE at h2⊢
   split
   ·rename_i he
    unfold endsIn at he
    simp only[qat,decide_eq_true_eq,beq_iff_eq]at he
    have:=qbf (r.length-1) r
    rw[he.2]at this
    exact this
   ·rename_i he;rw[if_neg he]at h2;cases h2
  rw[g1]
  clear h2 h3 h4 h5 h6 g1
  unfold cutS at h1⊢
  split
  ·rename_i hm
   have e1:=zjs (· != 40) s
   have hend:∀c,s[(s.takeWhile (· != 40)).length]?=some c->c=40:=fun c hc=>by
    have:=zpf (· != 40) s c hc
    simpa using this
   cases hd:s.drop (s.takeWhile (· != 40)).length with
   | nil=>
     rw[hd,qaU]at e1
     rw[e1]at hm
     have:=qaw.1 (zk0 (· != 40) s) 40 hm
     simp at this
   | cons c r=>
     have hx:s[(s.takeWhile (· != 40)).length]?=some c:=by
      have:=qaW (xs:=s) (i:=(s.takeWhile (· != 40)).length) (j:=0)
      rw[hd]at this
      simpa using this.symm
     have:=hend c hx
     subst this
     rw[<-List.tail_drop,hd,List.tail_cons,<-hd]
     exact e1
  ·rename_i hm;rw[if_neg hm]at h1;cases h1
 ·exact .inr rfl
theorem zoJ(s:Str):zfa s=zgX s:=by
 by_cases hs:66<s.length
 ·unfold zfa zgX;rw[if_pos hs];simp[hs]
 ·rcases znG hs with ⟨h,l,w⟩|h
  ·rw[zgM hs w,zgN hs w]
  ·rcases znH hs with ⟨h',l,w⟩|h'
   ·rw[zgM hs w,zgN hs w]
   ·rw[h,h']
theorem ziP(s:Str):Pure Tryz.prog 98 [.s s] (.tup [.t (zoK (zgX s).1),.i (zgX s).2]):=by
 rw[<-zoJ];exact ziO s
def letter(c:Int):Bool:=(decide (97≤c) && decide (c≤122)) || (decide (65≤c) && decide (c≤90))
def digit(c:Int):Bool:=decide (48≤c) && decide (c≤57)
def inner(c:Int):Bool:=letter c || digit c || c == 95
abbrev u8 (c:Int):SV:=.t (.v (.int .u8 c))
theorem zc1(c:Int):Pure Tryz.prog 53 [u8 c] (.b (letter c)):=by
 refine so Tryz.func53 ?_
 repeat' (first|refine wk ?_|exact wkc|intro hc|refine wk2 ?_ ?_|fail)
 all_goals try(refine RetK.pure rfl ?_ rfl;exact Le.of_eq (by simp_all [pack,letter] <;> omega))
theorem zei(c:Int):Pure Tryz.prog 55 [u8 c] (.b (digit c)):=by
 refine so Tryz.func55 ?_
 repeat' (first|refine wk ?_|exact wkc|intro hc|refine wk2 ?_ ?_|fail)
 all_goals try(refine RetK.pure rfl ?_ rfl;exact Le.of_eq (by simp_all [pack,digit] <;> omega))
theorem zgf(c:Int):Pure Tryz.prog 76 [u8 c] (.b (inner c)):=by
 refine so Tryz.func76 ?_
 repeat' (first|refine wk ?_|exact wkc|intro hc|refine wk2 ?_ ?_|refine wb (zc1 _) ?_ ?_|refine wb (zei _) ?_ ?_|fail)
 all_goals try(refine RetK.pure rfl ?_ rfl;exact Le.of_eq (by simp_all [pack,inner] <;> omega))
def kws:List Str:=[
 [97,115,115,117,109,101],[97,110,100],[97,117,116,111,109,97,116,111,110],[98,111,111,108],[99,111,110,116,105,110,117,101],[100,111],[100,111,110,101],[101,108,115,101],[101,110,100],[101,110,115,117,114,101],[101,118,101,114,121],[102,97,108,115,101],[102,98,121],[105,102],[105,110,116],[108,101,116],[109,101,114,103,101],[109,111,100],[110,111,100,101],[110,111,116],[111,114],[112,114,101],[114,101,116,117,114,110,115],[115,116,97,116,101],[116,101,108],[116,104,101,110],[116,114,117,101],[116,121,112,101],[117,110,108,101,115,115],[117,110,116,105,108],[118,97,114],[119,104,101,110],[120,111,114]]
def keyword(s:Str):Bool:=kws.any fun w=>s == w
set_option maxHeartbeats 4000000 in
theorem zca (s:Str):Pure Tryz.prog 77 [.s s] (.b (keyword s)):=by
 refine so Tryz.func77 ?_
 repeat' (first|refine wk ?_|exact wkc|intro hc|refine wk2 ?_ ?_|fail)
 all_goals refine RetK.pure rfl ?_ rfl
 all_goals exact Le.of_eq (by simp[keyword,kws,pack, *])
def ziz(c:UInt8):Bool:=inner c.toNat
def zjF(c:UInt8):Bool:=letter c.toNat
def ident(s:Str):Bool:=
 match s with
 | []=>false
 | c::r=>decide (r.length+1≤40) && zjF c && !keyword (c::r) && (c::r).all ziz
theorem zgd(s:Str):Pure Tryz.prog 71 [.s s] (.b (ident s)):=by
 refine so Tryz.func71 ?_
 cases s with
 | nil=>
   repeat' (first|refine wk ?_|exact wkc|intro hc|refine wk2 ?_ ?_|refine wb (zc1 _) ?_ ?_|refine wb (zca _) ?_ ?_|fail)
   all_goals try(refine RetK.pure rfl ?_ rfl;exact Le.of_eq (by simp_all [pack,ident] <;> omega))
 | cons c r=>
   repeat' (first|refine wk ?_|exact wkc|intro hc|refine wk2 ?_ ?_|refine wb (zc1 _) ?_ ?_|refine wb (zca _) ?_ ?_|fail)
   all_goals try(refine RetK.pure rfl ?_ rfl;exact Le.of_eq (by simp_all [pack,ident,zjF] <;> omega))
   refine TR.zbv (c::r).length (fun k=>((c::r).take k).all ziz=true) (fun k=>[(0,.s (c::r)),(22,.i (c::r).length),(23,.i k)]) (fun _=>[]) rfl (fun k hlt ha=>?_) (fun ha=>?_)
   ·have hx:=qab hlt
    repeat' (first|refine wk ?_|exact wkc|intro hc|refine wk2 ?_ ?_|refine wb (zgf _) ?_ ?_|fail)
    ·refine zac.zb0 hlt ?_
     rw[qaJ hlt,qcc,ha]
     simpa [ziz]using hc
    ·refine RetK.pure rfl (Le.of_eq ?_) rfl
     have:(c::r).all ziz=false:=by
      rw[List.all_eq_false]
      exact⟨_,qaz hlt,by simpa [ziz]using hc⟩
     simp only[pack,ident,this]
     simp
   ·repeat' (first|refine wk ?_|exact wkc|intro hc|refine wk2 ?_ ?_|fail)
    rw[qbd]at ha
    refine RetK.pure rfl (Le.of_eq ?_) rfl
    simp_all [pack,ident,zjF]
    omega
def inW(v:Int):Bool:=decide (-32768≤v) && decide (v≤32767)
theorem zn8(v:Int):Pure Tryz.prog 91 [.i v] (.b (inW v)):=by
 refine so Tryz.func91 ?_
 repeat' (first|refine wk ?_|exact wkc|intro hc|refine wk2 ?_ ?_|fail)
 all_goals try(refine RetK.pure rfl ?_ rfl;exact Le.of_eq (by simp_all [pack,inW] <;> omega))
abbrev ensT (es:List En):T:=.sl 2 (es.map enT)
def zf4(es:List En)(t:Int):En×Bool:=
 if 3≤t/\t-3<es.length then(match es[(t-3).toNat]? with|some e=>(e,true)|none=>(⟨[],[]⟩,false)) else(⟨[],[]⟩,false)
def zcg(es:List En)(t:Int):Int:=
 if t=1 then 2 else if t=2 then 65536 else((zf4 es t).1.tags.length:Int)
def hasT(es:List En)(t v:Int):Bool:=if t=2 then inW v else decide (0≤v) && decide (v<zcg es t)
theorem zlm(es:List En)(t:I64):Pure Tryz.prog 90 [.t (ensT es),.n t] (.tup [.t (enT (zf4 es t.1).1),.b (zf4 es t.1).2]):=by
 obtain⟨t,ht1,ht2⟩:=t
 dsimp only[SV.n]
 refine so Tryz.func90 ?_
 have hl:(es.map enT).length=es.length:=qad _
 by_cases h:3≤t/\t-3<es.length
 ·obtain⟨h1,h2⟩:=h
  have hlt:(t-3).toNat<es.length:=by omega
  have hx:=zbW enT hlt
  repeat' (first|refine wk ?_|exact wkc|intro hc|refine wk2 ?_ ?_|fail)
  simp only[zf4,h1,h2,hlt,enT,and_self,if_true,qab]
  exact wkr
 ·repeat' (first|refine wk ?_|exact wkc|intro hc|refine wk2 ?_ ?_|fail)
  all_goals
   simp only[zf4,h,enT,if_false]
   exact wkr
theorem zdn(es:List En)(t:I64):Pure Tryz.prog 72 [.t (ensT es),.n t] (.i (zcg es t.1)):=by
 refine so Tryz.func72 ?_
 repeat' (first|refine wk ?_|exact wkc|intro hc|refine wk2 ?_ ?_|refine wv (zlm es t) ?_|fail)
 ·refine RetK.pure rfl (Le.of_eq ?_) rfl
  simp[pack,zcg,hc]
 ·refine RetK.pure rfl (Le.of_eq ?_) rfl
  simp[pack,zcg,hc]
 ·refine RetK.pure rfl (Le.of_eq ?_) rfl
  simp[pack,zcg, *]
theorem ziv(es:List En)(t v:I64):Pure Tryz.prog 73 [.t (ensT es),.n t,.n v] (.b (hasT es t.1 v.1)):=by
 refine so Tryz.func73 ?_
 repeat' (first|refine wk ?_|exact wkc|intro hc|refine wk2 ?_ ?_|refine wv (zn8 v.1) ?_|refine wv (zdn es t) ?_|fail)
 all_goals
  refine RetK.pure rfl (Le.of_eq ?_) rfl
  simp_all [pack,hasT] <;> omega
def tagI(t v:Int):Bool:=(decide (t=1) && (decide (v=0) || decide (v=1))) || (decide (3≤t) && decide (0≤v) && decide (v<16))
def zpn(t n:Int):Bool:=(decide (t=1) && decide (n=2)) || (decide (3≤t) && decide (1≤n) && decide (n≤16))
def opdI(o:Int):Int:=if o=1\/o=2 then 1 else 2
theorem znr(t v:Int):Pure Tryz.prog 109 [.i t,.i v] (.b (tagI t v)):=by
 refine so Tryz.func109 ?_
 repeat' (first|refine wk ?_|exact wkc|intro hc|refine wk2 ?_ ?_|fail)
 all_goals try(refine RetK.pure rfl ?_ rfl;exact Le.of_eq (by simp_all [pack,tagI] <;> omega))
theorem zgP(t n:Int):Pure Tryz.prog 111 [.i t,.i n] (.b (zpn t n)):=by
 refine so Tryz.func111 ?_
 repeat' (first|refine wk ?_|exact wkc|intro hc|refine wk2 ?_ ?_|fail)
 all_goals try(refine RetK.pure rfl ?_ rfl;exact Le.of_eq (by simp_all [pack,zpn] <;> omega))
theorem zlN(o:Int):Pure Tryz.prog 110 [.i o] (.i (opdI o)):=by
 refine so Tryz.func110 ?_
 repeat' (first|refine wk ?_|exact wkc|intro hc|refine wk2 ?_ ?_|fail)
 all_goals try(refine RetK.pure rfl ?_ rfl;exact Le.of_eq (by simp_all [pack,opdI] <;> omega))
structure Form where
 args:Bool
 op:Bool
 typed:Bool
 name:Bool
 word:Bool
abbrev zpw (f:Form):T:=.ag [.b f.args,.b f.op,.b f.typed,.b f.name,.b f.word]
def ofF(k o t v n:Int):Form:=
 if k=1 then⟨decide (n=0),false,(decide (t=2) && decide (-32768≤v) && decide (v≤32767)) || (!decide (t=2) && tagI t v),false,false⟩
 else if k=2 then⟨decide (n=0),false,decide (t=0) && decide (v=0),true,false⟩
 else if k=3 then⟨decide (n=opdI o),true,decide (t=0) && decide (v=0),false,false⟩
 else if k=4 then⟨decide (n=3),false,decide (t=0) && decide (v=0),false,false⟩
 else if k=5 then⟨decide (n=1),false,decide (t=0) && decide (v=0),false,false⟩
 else if k=6\/k=7 then⟨decide (n=2),false,decide (t=0) && decide (v=0),false,false⟩
 else if k=8 then⟨decide (n=1),false,!decide (t=2) && tagI t v,true,false⟩
 else if k=9 then⟨!decide (t=2) && zpn t n,false,decide (v=0),true,false⟩
 else if k=10 then⟨decide (v≤n),false,decide (t=0) && (decide (v=0) || decide (v=1)),true,false⟩
 else if k=11 then⟨decide (n=0),false,decide (t=0) && decide (v=0),false,true⟩
 else⟨false,false,false,false,false⟩
set_option maxHeartbeats 2000000 in
theorem zof (k o t v:Int) (nm:Str) (l:List T):Pure Tryz.prog 97 [.t (.ag [.i k,.i o,.i t,.i v,.s nm,.sl 6 l])] (.t (zpw (ofF k o t v l.length))):=by
 have ht:=znr t v
 have hb:=zgP t l.length
 have ho:=zlN o
 have hk:k=1\/k=2\/k=3\/k=4\/k=5\/k=6\/k=7\/k=8\/k=9\/k=10\/k=11\/(k<1\/11<k):=by omega
 rcases hk with rfl|rfl|rfl|rfl|rfl|rfl|rfl|rfl|rfl|rfl|rfl|hk
 all_goals
  first|rw[show ofF k o t v l.length=⟨false,false,false,false,false⟩ from by unfold ofF;repeat' (first|rw[if_neg (by omega)]|fail)]|simp only[ofF,Int.reduceEq,if_false,if_true,or_self,or_true,true_or,or_false,false_or]
  refine so Tryz.func97 ?_
  repeat' (first|refine wu ?_|exact wkc|intro hc|refine wk2 ?_ ?_|refine wv ht ?_|refine wv hb ?_|refine wv ho ?_|fail)
  all_goals
   refine RetK.pure rfl (Le.tree rfl (TLe.of_eq ?_)) rfl
   clear ht hb ho
   simp only[zpw,T.ag.injEq,qbu,T.v.injEq,Value.bool.injEq,and_true,true_eq_decide_iff,false_eq_decide_iff,eq_comm (a:=true),eq_comm (a:=false),qbX,qat,Bool.or_eq_false_iff,Bool.and_eq_false_iff,qbM,Bool.not_eq_false',decide_eq_true_eq,decide_eq_false_iff_not,Bool.false_eq_true,true_and,reduceCtorEq] <;>
    first|omega|(simp_all;done)|(simp_all;omega)
end Go.Proofs.YtpfnfpaahefdaaaGreat
