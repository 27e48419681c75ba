import Derived.Test.YthmbhfgflijapaaGreatDoorPk10
set_option linter.all false
namespace Go.Proofs.YthmbhfgflijapaaGreatDoor
open Go Go.TL
attribute [local irreducible] TR TO Then zag RetK Sound zab Kf GG zaK
def za1:Ex->Int
 | .mk _ _ _ _ _ l=>(l.attach.map fun x=>za1 x.1).foldl max 0+1
decreasing_by
 have:=qbp x.2
 simp;omega
theorem zfV(e:Ex):za1 e=(e.args.map za1).foldl max 0+1:=by cases e;rw[za1];simp[Ex.args]
theorem zem(b:Int):∀(l:List Int) (a:Int),a≤b->(∀x∈l,x≤b)->l.foldl max a≤b
 | [],a,h,_=>h
 | x::l,a,h,h2=>zem b l _ (by have:=h2 x qak;omega) (fun y hy=>h2 y (qan _ hy))
theorem zel:∀(l:List Int) (a:Int),a≤l.foldl max a
 | [],a=>Int.le_refl _
 | x::l,a=>by have:=zel l (max a x);simp only[qbU];omega
theorem zn7(e:Ex):1≤za1 e/\za1 e≤wEx e:=by
 generalize hn:wEx e=n
 induction n using Nat.strongRecOn generalizing e with
 | ind n ih=>
   rw[zfV]
   have h1:=zel (e.args.map za1) 0
   have h2:(e.args.map za1).foldl max 0≤(n:Int)-1:=by
    refine zem _ _ _ (by have:=zb7 e;omega) fun y hy=>?_
    obtain⟨x,hx,rfl⟩:=qaP.1 hy
    have:=zcg hx
    have:=(ih (wEx x) (by omega) x rfl).2
    omega
   omega
theorem zbr{α:Type}{l:List α}{k:Nat}(h:k<l.length):l.take (k+1)=l.take k++[l[k]]:=qax h
theorem zkn:∀(m:Nat) (e:Ex),wEx e≤m->wEx e≤1000000000->Pure Tryz.prog 74 [.t (exT e)] (.i (za1 e)):=by
 intro m
 induction m with
 | zero=>intro e he;have:=zb7 e;omega
 | succ m ih0=>
   intro e he hb
   have ih:∀x∈e.args,Pure Tryz.prog 74 [.t (exT x)] (.i (za1 x)):=fun x hx=>ih0 x (by have:=zcg hx;omega) (by have:=zcg hx;omega)
   clear ih0
   have hll:=znN e
   have hdl:∀x∈e.args,za1 x≤1000000000:=fun x hx=>by have:=(zn7 x).2;have:=zcg hx;omega
   rw[zfV,zae]
   unfold exC
   generalize e.args=l at ih hll hdl⊢
   have hml:(l.map exT).length=l.length:=qab _
   refine so Tryz.func74 ?_
   repeat' (first|refine wu ?_|exact wkc|intro hc|refine wk2 ?_ ?_|fail)
   refine TR.zaA l.length (fun _=>True) (fun j=>[(3,.i (((l.take j).map za1).foldl max 0)),(7,.t (.sl 6 (l.map exT))),(8,.i l.length),(9,.i j)]) (fun _=>[]) trivial (fun j hlt _=>?_) (fun _=>?_) ⟨rfl,rfl,by rw[<-hml];rfl,rfl,trivial⟩
   ·have hx:=zd3 hlt
    have hs:=ih l[j] (qaf hlt)
    rw[zae]at hs
    have hk:((l.take (j+1)).map za1).foldl max 0=max (((l.take j).map za1).foldl max 0) (za1 l[j]):=by rw[zbr hlt];simp only[qaH,qah,qaC,qbA,qbU,List.foldl_nil]
    generalize l[j]=x at hx hs hk
    unfold exC at hx hs
    repeat' (first|refine wu ?_|exact wkc|intro hc|refine wk2 ?_ ?_|refine wv hs ?_|fail)
    exact zab.zaI hlt trivial (by(try dsimp only);rw[hk];exact⟨rfl,rfl,rfl,rfl,trivial⟩)
   ·rw[qap]
    have h1:=zem 1000000000 (l.map za1) 0 (by omega) (fun y hy=>by obtain⟨x,hx,rfl⟩:=qaP.1 hy;exact hdl x hx)
    have h2:=zel (l.map za1) 0
    repeat' (first|refine wu ?_|exact wkc|intro hc|refine wk2 ?_ ?_|fail)
    exact wkr
theorem zlU(e:Ex)(h:wEx e≤1000000000):Pure Tryz.prog 74 [.t (exT e)] (.i (za1 e)):=zkn _ e (qae _) h
theorem zmy(e:Ex)(h:wEx e≤1000000000):Pure Tryz.prog 73 [.t (exT e)] (.i (wEx e)):=by
 have hs:=zdx e
 rw[zae]at hs⊢
 have hc0:exC e=[T.n e.kind,T.n e.op,T.n e.t,T.n e.v,.s e.name,.sl 6 (e.args.map exT)]:=rfl
 have hfl:=zjl e
 rw[hc0]at hs⊢
 refine so Tryz.func73 ?_
 repeat' (first|refine wkb ?_|refine wk ?_|exact wkc|intro hc|refine wk2 ?_ ?_|refine wv hs ?_|fail)
 refine TR.zep e (fun pre=>[.cells [.i pre.length]]) (fun _ _=>.go) rfl h rfl rfl rfl (fun _=>⟨rfl,rfl⟩) (fun _ _=>trivial) (fun fn pre x post hw=>?_) (fun fn=>?_)
 ·have hl:pre.length<wEx e:=by rw[<-hfl,hw];simp
  refine TR.skip ⟨rfl,?_⟩
  repeat' (first|refine wkb ?_|refine wk ?_|exact wkc|intro hc|refine wk2 ?_ ?_|fail)
  exact⟨rfl,by simp,rfl⟩
 ·have:∀(l pre:List Ex),zbh (fun _ _=>Out.go) pre l= .go:=by
   intro l
   induction l with
   | nil=>intro _;rfl
   | cons x l ih=>intro pre;simp[zbh,ih]
  rw[this,<-hfl]
  repeat' (first|refine wkb ?_|refine wk ?_|exact wkc|intro hc|refine wk2 ?_ ?_|fail)
  exact wkr
def bit(c:UInt8):Bool:=decide ((c.toNat:Int)=48) || decide ((c.toNat:Int)=49)
abbrev bitT (c:UInt8):T:=.v (.bool (decide ((c.toNat:Int)=49)))
abbrev zo9 (l:Str):T:=.sl 1 (l.map bitT)
theorem ztm(p:UInt8->Bool):∀(l:Str) (c:UInt8),l[(l.takeWhile p).length]?=some c->p c=false
 | [],c,h=>by simp at h
 | a::l,c,h=>by
   by_cases hp:p a=true
   ·simp only[qbb,hp,if_true,qal,qbK]at h
    exact ztm p l c h
   ·simp only[qbb,hp]at h
    simp at h
    subst h
    simpa using hp
theorem zqZ(p:UInt8->Bool):∀(l:Str),(l.takeWhile p).length≤l.length
 | []=>qae _
 | a::l=>by
   simp only[qbb]
   split
   ·have:=zqZ p l;simp;omega
   ·simp
theorem zki(h l:Str)(hs:h.length≤1000)(hl:l.length≤1000):Pure Tryz.prog 153 [.t (.ag [zo9 h,zo9 l])] (.i (if l.length=0 then 5 else if 64<h.length+l.length then 3 else 0)):=by
 have h1:(h.map bitT).length=h.length:=qab _
 have h2:(l.map bitT).length=l.length:=qab _
 refine so Tryz.func153 ?_
 repeat' (first|refine wu ?_|exact wkc|intro hc|refine wk2 ?_ ?_|fail)
 ·rw[if_pos (by omega)];exact wkr
 ·rw[if_neg (by omega),if_pos (by omega)];exact wkr
 ·rw[if_neg (by omega),if_neg (by omega)];exact wkr
theorem zfy(s:Str)(hs:s.length≤1000):Pure Tryz.prog 152 [.s s] (.tup [.t (zo9 (if s.all bit then s else[])),.b (s.all bit)]):=by
 refine so Tryz.func152 ?_
 repeat' (first|refine wk ?_|exact wkc|intro hc|refine wk2 ?_ ?_|fail)
 refine TR.tail 1 4 rfl ?_
 refine TR.zaA s.length (fun k=>(s.take k).all bit=true) (fun k=>[(0,.s s),(7,.i s.length),(8,.i k),(4,.sl 1 ((s.take k).map bitT) 0)]) (fun k=>[.tail ((s.take k).map bitT).length]) rfl (fun k hlt ha=>?_) (fun ha=>?_)
 ·have hx:=qac hlt
  have htk:=qax hlt
  have hm:=qaf hlt
  generalize s[k]=c at hx htk hm
  have hmk:((s.take k).map bitT).length≤1000:=by simp;omega
  repeat' (first|refine wk ?_|exact wkc|intro hc|refine wk2 ?_ ?_|fail)
  all_goals first
   | (refine zab.zaI hlt (by rw[htk,qbS,ha];simp[bit];omega) ?_ ?_
      ·rw[htk,qaH]
       simp only[qah,qaC,bitT, *]
       exact⟨rfl,rfl,rfl,rfl,trivial⟩
      ·rw[htk,qaH,qad];rfl)
   | (have h0:s.all bit=false:=List.all_eq_false.2 ⟨c,hm,by simp[bit];omega⟩
      rw[h0]
      simp only[Bool.false_eq_true,if_false,qaC]
      exact wkr)
   | (exfalso;simp_all;done)
 ·rw[qap]at ha⊢
  rw[ha]
  repeat' (first|refine wk ?_|exact wkc|intro hc|refine wk2 ?_ ?_|fail)
  exact wkr
def zea(s:Str):(Str×Str)×Int:=
 if 66<s.length then(([],[]),3) else
 match s.drop (s.takeWhile bit).length with
 | 40::r=>if r.drop (r.takeWhile bit).length=[41]/\r.takeWhile bit≠ [] then((s.takeWhile bit,r.takeWhile bit),0) else(([],[]),5)
 | _=>(([],[]),5)
abbrev zsD (w:Str×Str):T:=.ag [zo9 w.1,zo9 w.2]
def cutS(s:Str)(c:UInt8):Str×Str×Bool:=
 if c∈s then(s.takeWhile (· != c),s.drop ((s.takeWhile (· != c)).length+1),true) else(s,[],false)
theorem zfw(c:UInt8):∀(s:Str),Lib.indexByte s c=if c∈s then((s.takeWhile (· != c)).length:Int) else -1
 | []=>by simp[Lib.indexByte]
 | b::l=>by
   have ih:=zfw c l
   unfold Lib.indexByte
   by_cases hb:b=c
   ·subst hb;simp
   ·have h1:(b == c)=false:=by simpa using hb
    have h2:(b != c)=true:=by simpa using hb
    rw[ih]
    by_cases hm:c∈l
    ·have:((l.takeWhile (· != c)).length:Int)≠ -1:=by omega
     simp[h1,h2,hm,this,qbb]
    ·have hc:¬c=b:=fun e=>hb e.symm
     simp[h1,hm,hc]
theorem zgC(s:Str)(c:UInt8):Pure Tryz.prog 177 [.s s,.t (.v (.int .u8 c.toNat))] (.i (Lib.indexByte s c)):=by
 refine so Tryz.func177 ?_
 repeat' (first|refine wk ?_|exact wkc|intro hc|refine wk2 ?_ ?_|(apply TO.zgB;exact rfl;exact Tryz.func186;kernel_rfl;kernel_rfl;kernel_rfl;kernel_rfl;exact rfl;exact rfl)|fail)
 refine RetK.pure rfl (Le.of_eq ?_) rfl
 simp[pack]
theorem zma(s:Str)(c:UInt8):Pure Tryz.prog 171 [.s s,.s [c]] (.i (Lib.indexByte s c)):=by
 refine so Tryz.func171 ?_
 repeat' (first|refine wk ?_|exact wkc|intro hc|refine wk2 ?_ ?_|refine wv (zgC s c) ?_|fail)
 ·subst hc
  rw[show Lib.indexByte [c] c=0 from by simp[Lib.indexByte]]
  exact wkr
 ·exact wkr
theorem zn1(s:Str)(c:UInt8)(hs:s.length≤1000000000):Pure Tryz.prog 167 [.s s,.s [c]] (.tup [.s (cutS s c).1,.s (cutS s c).2.1,.b (cutS s c).2.2]):=by
 have hi:=zma s c
 rw[zfw]at hi
 by_cases hm:c∈s
 ·rw[if_pos hm]at hi
  have hle:=zqZ (· != c) s
  have hlt:(s.takeWhile (· != c)).length<s.length:=by
   refine Nat.lt_of_le_of_ne hle fun e=>?_
   have:∀l:Str,(l.takeWhile (· != c)).length=l.length->c ∉ l:=by
    intro l
    induction l with
    | nil=>simp
    | cons a l ih=>
      intro h
      by_cases ha:(a != c)=true
      ·simp only[qbb,ha,if_true,qal]at h
       have:=ih (by omega)
       simp at ha
       simp[this];exact fun e=>ha e.symm
      ·simp[qbb,ha]at h
   exact this s e hm
  have htk:s.takeWhile (· != c)=s.take (s.takeWhile (· != c)).length:=by
   conv=>rhs;arg 2;rw[<-qa5 (p:=(· != c)) (l:=s)]
   rw[qcL]
  simp only[cutS,hm,if_true]
  rw[htk]
  have hlen:(s.take (s.takeWhile (· != c)).length).length=(s.takeWhile (· != c)).length:=by rw[<-htk]
  rw[hlen]
  generalize (s.takeWhile (· != c)).length=k at hi hlt hle⊢
  clear htk hlen
  refine so Tryz.func167 ?_
  repeat' (first|refine wk ?_|exact wkc|intro hc|refine wk2 ?_ ?_|refine wv hi ?_|(apply TO.zgX (a:=k+1) zaf;(iterate 5 exact rfl);omega)|fail)
  exact wkr
 ·rw[if_neg hm]at hi
  simp only[cutS,hm,if_false]
  refine so Tryz.func167 ?_
  repeat' (first|refine wk ?_|exact wkc|intro hc|refine wk2 ?_ ?_|refine wv hi ?_|fail)
  exact wkr
theorem zpl(s:Str)(c:UInt8)(hs:s.length≤1000000000):Pure Tryz.prog 150 [.s s,.s [c]] (.tup [.s (cutS s c).1,.s (cutS s c).2.1,.b (cutS s c).2.2]):=by
 refine so Tryz.func150 ?_
 repeat' (first|refine wk ?_|exact wkc|intro hc|refine wk2 ?_ ?_|refine wv (zn1 s c hs) ?_|fail)
 exact wkr
def endsIn(s:Str)(c:UInt8):Bool:=decide (1≤s.length) && s.drop (s.length-1) == [c]
theorem zkz(s:Str)(c:UInt8)(hs:s.length≤1000000000):Pure Tryz.prog 172 [.s s,.s [c]] (.b (endsIn s c)):=by
 by_cases h1:1≤s.length
 ·obtain⟨k,hk⟩:∃k,s.length=k+1:=⟨s.length-1,by omega⟩
  have hkk:s.length-1=k:=by omega
  have hki:(s.length:Int)-(([c]:Str).length:Int)=(k:Int):=by simp;omega
  refine so Tryz.func172 ?_
  repeat' (first|refine wk ?_|exact wkc|intro hc|refine wk2 ?_ ?_|(apply TO.zgX (a:=k) zaf;(iterate 4 exact rfl);exact congrArg (fun z=>some (SV.i z)) hki;omega)|fail)
  all_goals
   refine RetK.pure rfl (Le.of_eq ?_) rfl
   simp only[pack,endsIn,hkk,h1,decide_true,qcj,SV.t.injEq,T.v.injEq,Value.bool.injEq]
   simp[hc]
 ·refine so Tryz.func172 ?_
  repeat' (first|refine wk ?_|exact wkc|intro hc|refine wk2 ?_ ?_|fail)
  all_goals first
   | (exfalso;simp at hc;omega)
   | (refine RetK.pure rfl (Le.of_eq ?_) rfl
      simp[pack,endsIn,h1])
def cutE(s:Str)(c:UInt8):Str×Bool:=if endsIn s c then(s.take (s.length-1),true) else(s,false)
theorem zlT(s:Str)(c:UInt8)(hs:s.length≤1000000000):Pure Tryz.prog 168 [.s s,.s [c]] (.tup [.s (cutE s c).1,.b (cutE s c).2]):=by
 have hf:=zkz s c hs
 cases he:endsIn s c with
 | true=>
   rw[he]at hf
   have h1:1≤s.length:=by simp[endsIn]at he;omega
   obtain⟨k,hk⟩:∃k,s.length=k+1:=⟨s.length-1,by omega⟩
   have hkk:s.length-1=k:=by omega
   have hki:(s.length:Int)-(([c]:Str).length:Int)=(k:Int):=by simp;omega
   simp only[cutE,he,if_true,hkk]
   refine so Tryz.func168 ?_
   repeat' (first|refine wk ?_|exact wkc|intro hc|refine wk2 ?_ ?_|refine wv hf ?_|(apply TO.zfH (b:=k) zaf;(iterate 4 exact rfl);exact congrArg (fun z=>some (SV.i z)) hki;omega)|fail)
   exact wkr
 | false=>
   rw[he]at hf
   simp only[cutE,he]
   refine so Tryz.func168 ?_
   repeat' (first|refine wk ?_|exact wkc|intro hc|refine wk2 ?_ ?_|refine wv hf ?_|fail)
   exact wkr
theorem zn2(s:Str)(c:UInt8)(hs:s.length≤1000000000):Pure Tryz.prog 151 [.s s,.s [c]] (.tup [.s (cutE s c).1,.b (cutE s c).2]):=by
 refine so Tryz.func151 ?_
 repeat' (first|refine wk ?_|exact wkc|intro hc|refine wk2 ?_ ?_|refine wv (zlT s c hs) ?_|fail)
 exact wkr
theorem zrx(s:Str)(c:UInt8):(cutS s c).1.length≤s.length/\(cutS s c).2.1.length≤s.length:=by
 unfold cutS
 split
 ·exact⟨zqZ _ _,by simp⟩
 ·simp
theorem zrw(s:Str)(c:UInt8):(cutE s c).1.length≤s.length:=by
 unfold cutE;split <;> simp
def zgf(s:Str):(Str×Str)×Int:=
 let a:=cutS s 40
 let b:=cutE a.2.1 41
 if 66<s.length then(([],[]),3)
 else if a.2.2=true/\b.2=true/\a.1.all bit=true/\b.1.all bit=true/\b.1.length≠0/\a.1.length+b.1.length≤64 then((a.1,b.1),0) else(([],[]),5)
theorem zk0(s:Str):Pure Tryz.prog 110 [.s s] (.tup [.t (zsD (zgf s).1),.i (zgf s).2]):=by
 by_cases h66:66<s.length
 ·rw[show zgf s=(([],[]),3) from if_pos h66]
  refine so Tryz.func110 ?_
  repeat' (first|refine wk ?_|exact wkc|intro hc|refine wk2 ?_ ?_|fail)
  exact wkr
 ·have hs:s.length≤1000000000:=by omega
  have hq:zgf s=if(cutS s 40).2.2=true/\(cutE (cutS s 40).2.1 41).2=true/\(cutS s 40).1.all bit=true/\(cutE (cutS s 40).2.1 41).1.all bit=true/\(cutE (cutS s 40).2.1 41).1.length≠0/\(cutS s 40).1.length+(cutE (cutS s 40).2.1 41).1.length≤64
    then(((cutS s 40).1,(cutE (cutS s 40).2.1 41).1),0) else(([],[]),5):=if_neg h66
  have c1:=zpl s 40 hs
  have l1:=zrx s 40
  generalize cutS s 40=a at hq c1 l1
  obtain⟨fr,re,is⟩:=a
  simp only at hq c1 l1
  have c2:=zn2 re 41 (by omega)
  have l2:=zrw re 41
  generalize cutE re 41=b at hq c2 l2
  obtain⟨bk,cl⟩:=b
  simp only at hq c2 l2
  have c3:=zfy fr (by omega)
  have c4:=zfy bk (by omega)
  have hW:∀ {x:Int},Pure Tryz.prog 110 [.s s] (.tup [.t (zsD ([],[])),.i 5])->zgf s=(([],[]),5)->Pure Tryz.prog 110 [.s s] (.tup [.t (zsD (zgf s).1),.i (zgf s).2]):=fun h e=>by rw[e];exact h
  cases is with
  | false=>
    refine hW (x:=0) ?_ (by rw[hq,if_neg (by simp)])
    refine so Tryz.func110 ?_
    repeat' (first|refine wk ?_|exact wkc|intro hc|refine wk2 ?_ ?_|refine wv c1 ?_|refine wv c2 ?_|refine wv c3 ?_|refine wv c4 ?_|fail)
    all_goals exact wkr
  | true=>
    cases cl with
    | false=>
      refine hW (x:=0) ?_ (by rw[hq,if_neg (by simp)])
      refine so Tryz.func110 ?_
      repeat' (first|refine wk ?_|exact wkc|intro hc|refine wk2 ?_ ?_|refine wv c1 ?_|refine wv c2 ?_|refine wv c3 ?_|refine wv c4 ?_|fail)
      all_goals exact wkr
    | true=>
      cases h1:fr.all bit with
      | false=>
        rw[h1]at c3
        refine hW (x:=0) ?_ (by rw[hq,if_neg (by simp[h1])])
        refine so Tryz.func110 ?_
        repeat' (first|refine wk ?_|exact wkc|intro hc|refine wk2 ?_ ?_|refine wv c1 ?_|refine wv c2 ?_|refine wv c3 ?_|refine wv c4 ?_|fail)
        all_goals exact wkr
      | true=>
        rw[h1]at c3
        cases h2:bk.all bit with
        | false=>
          rw[h2]at c4
          refine hW (x:=0) ?_ (by rw[hq,if_neg (by simp[h2])])
          refine so Tryz.func110 ?_
          repeat' (first|refine wk ?_|exact wkc|intro hc|refine wk2 ?_ ?_|refine wv c1 ?_|refine wv c2 ?_|refine wv c3 ?_|refine wv c4 ?_|fail)
          all_goals exact wkr
        | true=>
          rw[if_pos rfl]at c3
          rw[h2,if_pos rfl]at c4
          have c5:=zki fr bk (by omega) (by omega)
          by_cases e1:bk.length=0
          ·rw[if_pos e1]at c5
           refine hW (x:=0) ?_ (by rw[hq,if_neg (by simp[e1])])
           exact zwbl
          ·rw[if_neg e1]at c5
           by_cases e2:64<fr.length+bk.length
           ·rw[if_pos e2]at c5
            refine hW (x:=0) ?_ (by rw[hq,if_neg (by rintro⟨-,-,-,-,-,h⟩;omega)])
            exact zwbl
           ·rw[if_neg e2]at c5
            rw[hq,if_pos ⟨rfl,rfl,h1,h2,e1,by omega⟩]
            exact zwbl
theorem ztC{c:UInt8}(h:bit c=true):c≠40/\c≠41:=by
 refine⟨fun e=>?_,fun e=>?_⟩ <;> (subst e;revert h;decide)
theorem zlW(p:UInt8->Bool)(l:Str):l=l.takeWhile p++l.drop (l.takeWhile p).length:=by
 conv=>lhs;rw[<-qa5 (p:=p) (l:=l)]
 congr 1
 conv=>rhs;arg 2;rw[<-qa5 (p:=p) (l:=l)]
 rw[qbQ]
theorem zfM(p:UInt8->Bool):∀(a:Str) (c:UInt8) (b:Str),a.all p=true->p c=false->(a++c::b).takeWhile p=a
 | [],c,b,_,hc=>by simp[qbb,hc]
 | x::a,c,b,h,hc=>by
   simp only[qbF,qau]at h
   simp[qbb,h.1,zfM p a c b h.2 hc]
theorem znK(p:UInt8->Bool):∀(l:Str),(l.takeWhile p).all p=true
 | []=>rfl
 | a::l=>by
   by_cases h:p a=true
   ·simp only[qbb,h,if_true,qbF,qcj];exact znK p l
   ·simp[qbb,h]
def wshape(s h l:Str):Prop:=s=h++40::(l++[41])/\h.all bit=true/\l.all bit=true/\l≠ []
theorem zia{s h l:Str}(hs:¬66<s.length)(w:wshape s h l):zea s=((h,l),0):=by
 obtain⟨rfl,h1,h2,h3⟩:=w
 have e1:(h++40::(l++[41])).takeWhile bit=h:=zfM bit h 40 _ h1 (by decide)
 have e2:(l++[41]).takeWhile bit=l:=zfM bit l 41 [] h2 (by decide)
 unfold zea
 rw[if_neg hs,e1,qbQ]
 simp only[e2,qbQ]
 rw[if_pos ⟨trivial,h3⟩]
theorem zrb{s:Str}(hs:¬66<s.length):(∃h l,wshape s h l)\/zea s=(([],[]),5):=by
 unfold zea
 rw[if_neg hs]
 split
 ·rename_i r hr
  split
  ·rename_i h
   refine .inl ⟨s.takeWhile bit,r.takeWhile bit,?_,znK _ _,znK _ _,h.2⟩
   have e1:=zlW bit s
   have e2:=zlW bit r
   rw[hr]at e1
   rw[h.1]at e2
   rw[<-e2];exact e1
  ·exact .inr rfl
 ·exact .inr rfl
theorem zib{s h l:Str}(hs:¬66<s.length)(w:wshape s h l):zgf s=((h,l),0):=by
 obtain⟨rfl,h1,h2,h3⟩:=w
 have hne:∀(a:Str),a.all bit=true->a.all (· != 40)=true:=fun a ha=>qaw.2 fun c hc=>by
  have:=(ztC (qaw.1 ha c hc)).1
  simpa using this
 have e1:(h++40::(l++[41])).takeWhile (· != 40)=h:=zfM _ h 40 _ (hne h h1) (by decide)
 have e2:cutS (h++40::(l++[41])) 40=(h,l++[41],true):=by
  unfold cutS
  rw[if_pos (by simp),e1]
  have:(h++40::(l++[41])).drop (h.length+1)=l++[41]:=by
   rw[show h++40::(l++[41])=(h++[40])++(l++[41]) from by simp]
   exact List.drop_left' (by simp)
  rw[this]
 have e3:cutE (l++[41]) 41=(l,true):=by
  unfold cutE endsIn
  simp
 have e4:l.length≠0:=fun e=>h3 (qaM e)
 unfold zgf
 simp only[if_neg hs,e2,e3]
 rw[if_pos]
 simp only[qad,qal,qaz]at hs
 exact⟨by trivial,by trivial,h1,h2,e4,by omega⟩
theorem zrc{s:Str}(hs:¬66<s.length):(∃h l,wshape s h l)\/zgf s=(([],[]),5):=by
 unfold zgf
 simp only[if_neg hs]
 split
 ·rename_i h
  obtain⟨h1,h2,h3,h4,h5,h6⟩:=h
  refine .inl ⟨(cutS s 40).1,(cutE (cutS s 40).2.1 41).1,?_,h3,h4,fun e=>h5 (by rw[e];rfl)⟩
  have g1:(cutE (cutS s 40).2.1 41).1++[41]=(cutS s 40).2.1:=by
   generalize (cutS s 40).2.1=r at h2⊢
   unfold cutE at h2⊢
   split
   ·rename_i he
    unfold endsIn at he
    simp only[qau,decide_eq_true_eq,beq_iff_eq]at he
    have:=qaV (r.length-1) r
    rw[he.2]at this
    exact this
   ·rename_i he;rw[if_neg he]at h2;cases h2
  rw[g1]
  clear h2 h3 h4 h5 h6 g1
  unfold cutS at h1⊢
  split
  ·rename_i hm
   have e1:=zlW (· != 40) s
   have hend:∀c,s[(s.takeWhile (· != 40)).length]?=some c->c=40:=fun c hc=>by
    have:=ztm (· != 40) s c hc
    simpa using this
   cases hd:s.drop (s.takeWhile (· != 40)).length with
   | nil=>
     rw[hd,qaG]at e1
     rw[e1]at hm
     have:=qaw.1 (znK (· != 40) s) 40 hm
     simp at this
   | cons c r=>
     have hx:s[(s.takeWhile (· != 40)).length]?=some c:=by
      have:=qa6 (xs:=s) (i:=(s.takeWhile (· != 40)).length) (j:=0)
      rw[hd]at this
      simpa using this.symm
     have:=hend c hx
     subst this
     rw[<-List.tail_drop,hd,List.tail_cons,<-hd]
     exact e1
  ·rename_i hm;rw[if_neg hm]at h1;cases h1
 ·exact .inr rfl
theorem zsC(s:Str):zgf s=zea s:=by
 by_cases hs:66<s.length
 ·unfold zgf zea;rw[if_pos hs];simp[hs]
 ·rcases zrb hs with ⟨h,l,w⟩|h
  ·rw[zia hs w,zib hs w]
  ·rcases zrc hs with ⟨h',l,w⟩|h'
   ·rw[zia hs w,zib hs w]
   ·rw[h,h']
theorem zk1(s:Str):Pure Tryz.prog 110 [.s s] (.tup [.t (zsD (zea s).1),.i (zea s).2]):=by
 rw[<-zsC];exact zk0 s
def letter(c:Int):Bool:=(decide (97≤c) && decide (c≤122)) || (decide (65≤c) && decide (c≤90))
def digit(c:Int):Bool:=decide (48≤c) && decide (c≤57)
def inner(c:Int):Bool:=letter c || digit c || c == 95
abbrev u8 (c:Int):SV:=.t (.v (.int .u8 c))
theorem zdg(c:Int):Pure Tryz.prog 117 [u8 c] (.b (letter c)):=by
 refine so Tryz.func117 ?_
 repeat' (first|refine wk ?_|exact wkc|intro hc|refine wk2 ?_ ?_|fail)
 all_goals try(refine RetK.pure rfl ?_ rfl;exact Le.of_eq (by simp_all [pack,letter] <;> omega))
theorem zeY(c:Int):Pure Tryz.prog 119 [u8 c] (.b (digit c)):=by
 refine so Tryz.func119 ?_
 repeat' (first|refine wk ?_|exact wkc|intro hc|refine wk2 ?_ ?_|fail)
 all_goals try(refine RetK.pure rfl ?_ rfl;exact Le.of_eq (by simp_all [pack,digit] <;> omega))
theorem zhy(c:Int):Pure Tryz.prog 149 [u8 c] (.b (inner c)):=by
 refine so Tryz.func149 ?_
 repeat' (first|refine wk ?_|exact wkc|intro hc|refine wk2 ?_ ?_|refine wb (zdg _) ?_ ?_|refine wb (zeY _) ?_ ?_|fail)
 all_goals try(refine RetK.pure rfl ?_ rfl;exact Le.of_eq (by simp_all [pack,inner] <;> omega))
def kws:List Str:=[
 [97,115,115,117,109,101],[97,110,100],[97,117,116,111,109,97,116,111,110],[98,111,111,108],[99,111,110,116,105,110,117,101],[100,111],[100,111,110,101],[101,108,115,101],[101,110,100],[101,110,115,117,114,101],[101,118,101,114,121],[102,97,108,115,101],[102,98,121],[105,102],[105,110,116],[108,101,116],[109,101,114,103,101],[109,111,100],[110,111,100,101],[110,111,116],[111,114],[112,114,101],[114,101,116,117,114,110,115],[115,116,97,116,101],[116,101,108],[116,104,101,110],[116,114,117,101],[116,121,112,101],[117,110,108,101,115,115],[117,110,116,105,108],[118,97,114],[119,104,101,110],[120,111,114]]
def keyword(s:Str):Bool:=kws.any fun w=>s == w
set_option maxHeartbeats 4000000 in
theorem zcc (s:Str):Pure Tryz.prog 148 [.s s] (.b (keyword s)):=by
 refine so Tryz.func148 ?_
 repeat' (first|refine wk ?_|exact wkc|intro hc|refine wk2 ?_ ?_|fail)
 all_goals refine RetK.pure rfl ?_ rfl
 all_goals exact Le.of_eq (by simp[keyword,kws,pack, *])
def ziM(c:UInt8):Bool:=inner c.toNat
def zme(c:UInt8):Bool:=letter c.toNat
def ident(s:Str):Bool:=
 match s with
 | []=>false
 | c::r=>decide (r.length+1≤40) && zme c && !keyword (c::r) && (c::r).all ziM
theorem zhw(s:Str):Pure Tryz.prog 109 [.s s] (.b (ident s)):=by
 refine so Tryz.func109 ?_
 cases s with
 | nil=>
   repeat' (first|refine wk ?_|exact wkc|intro hc|refine wk2 ?_ ?_|refine wb (zdg _) ?_ ?_|refine wb (zcc _) ?_ ?_|fail)
   all_goals try(refine RetK.pure rfl ?_ rfl;exact Le.of_eq (by simp_all [pack,ident] <;> omega))
 | cons c r=>
   repeat' (first|refine wk ?_|exact wkc|intro hc|refine wk2 ?_ ?_|refine wb (zdg _) ?_ ?_|refine wb (zcc _) ?_ ?_|fail)
   all_goals try(refine RetK.pure rfl ?_ rfl;exact Le.of_eq (by simp_all [pack,ident,zme] <;> omega))
   refine TR.zaA (c::r).length (fun k=>((c::r).take k).all ziM=true) (fun k=>[(0,.s (c::r)),(22,.i (c::r).length),(23,.i k)]) (fun _=>[]) rfl (fun k hlt ha=>?_) (fun ha=>?_)
   ·have hx:=qac hlt
    repeat' (first|refine wk ?_|exact wkc|intro hc|refine wk2 ?_ ?_|refine wb (zhy _) ?_ ?_|fail)
    ·refine zab.zaI hlt ?_
     rw[qax hlt,qbS,ha]
     simpa [ziM]using hc
    ·refine RetK.pure rfl (Le.of_eq ?_) rfl
     have:(c::r).all ziM=false:=by
      rw[List.all_eq_false]
      exact⟨_,qaf hlt,by simpa [ziM]using hc⟩
     simp only[pack,ident,this]
     simp
   ·repeat' (first|refine wk ?_|exact wkc|intro hc|refine wk2 ?_ ?_|fail)
    rw[qap]at ha
    refine RetK.pure rfl (Le.of_eq ?_) rfl
    simp_all [pack,ident,zme]
    omega
def inW(v:Int):Bool:=decide (-32768≤v) && decide (v≤32767)
theorem zrR(v:Int):Pure Tryz.prog 63 [.i v] (.b (inW v)):=by
 refine so Tryz.func63 ?_
 repeat' (first|refine wk ?_|exact wkc|intro hc|refine wk2 ?_ ?_|fail)
 all_goals try(refine RetK.pure rfl ?_ rfl;exact Le.of_eq (by simp_all [pack,inW] <;> omega))
abbrev ensT (es:List En):T:=.sl 2 (es.map enT)
def za5(es:List En)(t:Int):En×Bool:=
 if 3≤t/\t-3<es.length then(match es[(t-3).toNat]? with|some e=>(e,true)|none=>(⟨[],[]⟩,false)) else(⟨[],[]⟩,false)
def zbz(es:List En)(t:Int):Int:=
 if t=1 then 2 else if t=2 then 65536 else((za5 es t).1.tags.length:Int)
def hasT(es:List En)(t v:Int):Bool:=if t=2 then inW v else decide (0≤v) && decide (v<zbz es t)
theorem ziH(es:List En)(t:I64):Pure Tryz.prog 98 [.t (ensT es),.n t] (.tup [.t (enT (za5 es t.1).1),.b (za5 es t.1).2]):=by
 obtain⟨t,ht1,ht2⟩:=t
 dsimp only[SV.n]
 refine so Tryz.func98 ?_
 have hl:(es.map enT).length=es.length:=qab _
 by_cases h:3≤t/\t-3<es.length
 ·obtain⟨h1,h2⟩:=h
  have hlt:(t-3).toNat<es.length:=by omega
  have hx:=zbj enT hlt
  repeat' (first|refine wk ?_|exact wkc|intro hc|refine wk2 ?_ ?_|fail)
  simp only[za5,h1,h2,hlt,enT,and_self,if_true,qac]
  exact wkr
 ·repeat' (first|refine wk ?_|exact wkc|intro hc|refine wk2 ?_ ?_|fail)
  all_goals
   simp only[za5,h,enT,if_false]
   exact wkr
theorem zdF(es:List En)(t:I64):Pure Tryz.prog 64 [.t (ensT es),.n t] (.i (zbz es t.1)):=by
 refine so Tryz.func64 ?_
 repeat' (first|refine wk ?_|exact wkc|intro hc|refine wk2 ?_ ?_|refine wv (ziH es t) ?_|fail)
 ·refine RetK.pure rfl (Le.of_eq ?_) rfl
  simp[pack,zbz,hc]
 ·refine RetK.pure rfl (Le.of_eq ?_) rfl
  simp[pack,zbz,hc]
 ·refine RetK.pure rfl (Le.of_eq ?_) rfl
  simp[pack,zbz, *]
theorem zft(es:List En)(t v:I64):Pure Tryz.prog 33 [.t (ensT es),.n t,.n v] (.b (hasT es t.1 v.1)):=by
 refine so Tryz.func33 ?_
 repeat' (first|refine wk ?_|exact wkc|intro hc|refine wk2 ?_ ?_|refine wv (zrR v.1) ?_|refine wv (zdF es t) ?_|fail)
 all_goals
  refine RetK.pure rfl (Le.of_eq ?_) rfl
  simp_all [pack,hasT] <;> omega
def tagI(t v:Int):Bool:=(decide (t=1) && (decide (v=0) || decide (v=1))) || (decide (3≤t) && decide (0≤v) && decide (v<16))
def zjb(t n:Int):Bool:=(decide (t=1) && decide (n=2)) || (decide (3≤t) && decide (1≤n) && decide (n≤16))
def opdI(o:Int):Int:=if o=1\/o=2 then 1 else 2
theorem zqP(t v:Int):Pure Tryz.prog 145 [.i t,.i v] (.b (tagI t v)):=by
 refine so Tryz.func145 ?_
 repeat' (first|refine wk ?_|exact wkc|intro hc|refine wk2 ?_ ?_|fail)
 all_goals try(refine RetK.pure rfl ?_ rfl;exact Le.of_eq (by simp_all [pack,tagI] <;> omega))
theorem zie(t n:Int):Pure Tryz.prog 147 [.i t,.i n] (.b (zjb t n)):=by
 refine so Tryz.func147 ?_
 repeat' (first|refine wk ?_|exact wkc|intro hc|refine wk2 ?_ ?_|fail)
 all_goals try(refine RetK.pure rfl ?_ rfl;exact Le.of_eq (by simp_all [pack,zjb] <;> omega))
theorem zot(o:Int):Pure Tryz.prog 146 [.i o] (.i (opdI o)):=by
 refine so Tryz.func146 ?_
 repeat' (first|refine wk ?_|exact wkc|intro hc|refine wk2 ?_ ?_|fail)
 all_goals try(refine RetK.pure rfl ?_ rfl;exact Le.of_eq (by simp_all [pack,opdI] <;> omega))
structure Form where
 args:Bool
 op:Bool
 typed:Bool
 name:Bool
 word:Bool
abbrev zt0 (f:Form):T:=.ag [.b f.args,.b f.op,.b f.typed,.b f.name,.b f.word]
def ofF(k o t v n:Int):Form:=
 if k=1 then⟨decide (n=0),false,(decide (t=2) && decide (-32768≤v) && decide (v≤32767)) || (!decide (t=2) && tagI t v),false,false⟩
 else if k=2 then⟨decide (n=0),false,decide (t=0) && decide (v=0),true,false⟩
 else if k=3 then⟨decide (n=opdI o),true,decide (t=0) && decide (v=0),false,false⟩
 else if k=4 then⟨decide (n=3),false,decide (t=0) && decide (v=0),false,false⟩
 else if k=5 then⟨decide (n=1),false,decide (t=0) && decide (v=0),false,false⟩
 else if k=6\/k=7 then⟨decide (n=2),false,decide (t=0) && decide (v=0),false,false⟩
 else if k=8 then⟨decide (n=1),false,!decide (t=2) && tagI t v,true,false⟩
 else if k=9 then⟨!decide (t=2) && zjb t n,false,decide (v=0),true,false⟩
 else if k=10 then⟨decide (v≤n),false,decide (t=0) && (decide (v=0) || decide (v=1)),true,false⟩
 else if k=11 then⟨decide (n=0),false,decide (t=0) && decide (v=0),false,true⟩
 else⟨false,false,false,false,false⟩
set_option maxHeartbeats 2000000 in
theorem zr5 (k o t v:Int) (nm:Str) (l:List T):Pure Tryz.prog 108 [.t (.ag [.i k,.i o,.i t,.i v,.s nm,.sl 6 l])] (.t (zt0 (ofF k o t v l.length))):=by
 have ht:=zqP t v
 have hb:=zie t l.length
 have ho:=zot o
 have hk:k=1\/k=2\/k=3\/k=4\/k=5\/k=6\/k=7\/k=8\/k=9\/k=10\/k=11\/(k<1\/11<k):=by omega
 rcases hk with rfl|rfl|rfl|rfl|rfl|rfl|rfl|rfl|rfl|rfl|rfl|hk
 all_goals
  first|rw[show ofF k o t v l.length=⟨false,false,false,false,false⟩ from by unfold ofF;repeat' (first|rw[if_neg (by omega)]|fail)]|simp only[ofF,Int.reduceEq,if_false,if_true,or_self,or_true,true_or,or_false,false_or]
  refine so Tryz.func108 ?_
  repeat' (first|refine wu ?_|exact wkc|intro hc|refine wk2 ?_ ?_|refine wv ht ?_|refine wv hb ?_|refine wv ho ?_|fail)
  all_goals
   refine RetK.pure rfl (Le.tree rfl (TLe.of_eq ?_)) rfl
   clear ht hb ho
   simp only[zt0,T.ag.injEq,qbi,T.v.injEq,Value.bool.injEq,and_true,true_eq_decide_iff,false_eq_decide_iff,eq_comm (a:=true),eq_comm (a:=false),qbv,qau,qcK,qcD,qbs,Bool.not_eq_false',decide_eq_true_eq,decide_eq_false_iff_not,Bool.false_eq_true,true_and,reduceCtorEq] <;>
    first|omega|(simp_all;done)|(simp_all;omega)
end Go.Proofs.YthmbhfgflijapaaGreatDoor
