import Derived.Test.YtpnnpgbaiobbjaaGreatDoorCk10
set_option linter.all false
namespace Go.Proofs.YtpnnpgbaiobbjaaGreatDoor
open Go Go.TL
attribute [local irreducible] TR TO Then zao RetK Sound zab Kf GG za1
def bit(c:UInt8):Bool:=decide ((c.toNat:Int)=48) || decide ((c.toNat:Int)=49)
abbrev bitT (c:UInt8):T:=.v (.bool (decide ((c.toNat:Int)=49)))
abbrev zpA (l:Str):T:=.sl 1 (l.map bitT)
theorem ztG(p:UInt8->Bool):∀(l:Str) (c:UInt8),l[(l.takeWhile p).length]?=some c->p c=false
 | [],c,h=>by simp at h
 | a::l,c,h=>by
   by_cases hp:p a=true
   ·simp only[qbk,hp,if_true,qam,qcw]at h
    exact ztG p l c h
   ·simp only[qbk,hp]at h
    simp at h
    subst h
    simpa using hp
theorem zrJ(p:UInt8->Bool):∀(l:Str),(l.takeWhile p).length≤l.length
 | []=>qaf _
 | a::l=>by
   simp only[qbk]
   split
   ·have:=zrJ p l;simp;omega
   ·simp
theorem zkz(h l:Str)(hs:h.length≤1000)(hl:l.length≤1000):Pure Tryz.prog 325 [.t (.ag [zpA h,zpA l])] (.i (if l.length=0 then 5 else if 64<h.length+l.length then 3 else 0)):=by
 have h1:(h.map bitT).length=h.length:=qaa _
 have h2:(l.map bitT).length=l.length:=qaa _
 refine so Tryz.func325 ?_
 repeat' (first|refine wu ?_|exact wkc|intro hc|refine wk2 ?_ ?_|fail)
 ·rw[if_pos (by omega)];exact wkr
 ·rw[if_neg (by omega),if_pos (by omega)];exact wkr
 ·rw[if_neg (by omega),if_neg (by omega)];exact wkr
theorem zfF(s:Str)(hs:s.length≤1000):Pure Tryz.prog 324 [.s s] (.tup [.t (zpA (if s.all bit then s else[])),.b (s.all bit)]):=by
 refine so Tryz.func324 ?_
 repeat' (first|refine wk ?_|exact wkc|intro hc|refine wk2 ?_ ?_|fail)
 refine TR.tail 1 4 rfl ?_
 refine TR.zal s.length (fun k=>(s.take k).all bit=true) (fun k=>[(0,.s s),(7,.i s.length),(8,.i k),(4,.sl 1 ((s.take k).map bitT) 0)]) (fun k=>[.tail ((s.take k).map bitT).length]) rfl (fun k hlt ha=>?_) (fun ha=>?_)
 ·have hx:=qac hlt
  have htk:=qax hlt
  have hm:=qad hlt
  generalize s[k]=c at hx htk hm
  have hmk:((s.take k).map bitT).length≤1000:=by simp;omega
  repeat' (first|refine wk ?_|exact wkc|intro hc|refine wk2 ?_ ?_|fail)
  all_goals first
   | (refine zab.zaw hlt (by rw[htk,qbJ,ha];simp[bit];omega) ?_ ?_
      ·rw[htk,qak]
       simp only[qaj,qay,bitT, *]
       exact⟨rfl,rfl,rfl,rfl,trivial⟩
      ·rw[htk,qak,qae];rfl)
   | (have h0:s.all bit=false:=qbX.2 ⟨c,hm,by simp[bit];omega⟩
      rw[h0]
      simp only[Bool.false_eq_true,if_false,qay]
      exact wkr)
   | (exfalso;simp_all;done)
 ·rw[qag]at ha⊢
  exact zwef
def zgT(s:Str):(Str×Str)×Int:=
 if 66<s.length then(([],[]),3) else
 match s.drop (s.takeWhile bit).length with
 | 40::r=>if r.drop (r.takeWhile bit).length=[41]/\r.takeWhile bit≠ [] then((s.takeWhile bit,r.takeWhile bit),0) else(([],[]),5)
 | _=>(([],[]),5)
abbrev zs8 (w:Str×Str):T:=.ag [zpA w.1,zpA w.2]
def cutS(s:Str)(c:UInt8):Str×Str×Bool:=
 if c∈s then(s.takeWhile (· != c),s.drop ((s.takeWhile (· != c)).length+1),true) else(s,[],false)
theorem zfD(c:UInt8):∀(s:Str),Lib.indexByte s c=if c∈s then((s.takeWhile (· != c)).length:Int) else -1
 | []=>by simp[Lib.indexByte]
 | b::l=>by
   have ih:=zfD c l
   unfold Lib.indexByte
   by_cases hb:b=c
   ·subst hb;simp
   ·have h1:(b == c)=false:=by simpa using hb
    have h2:(b != c)=true:=by simpa using hb
    rw[ih]
    by_cases hm:c∈l
    ·have:((l.takeWhile (· != c)).length:Int)≠ -1:=by omega
     simp[h1,h2,hm,this,qbk]
    ·have hc:¬c=b:=fun e=>hb e.symm
     simp[h1,hm,hc]
theorem zgO(s:Str)(c:UInt8):Pure Tryz.prog 339 [.s s,.t (.v (.int .u8 c.toNat))] (.i (Lib.indexByte s c)):=by
 refine so Tryz.func339 ?_
 repeat' (first|refine wk ?_|exact wkc|intro hc|refine wk2 ?_ ?_|(apply TO.zgN;exact rfl;exact Tryz.func343;kernel_rfl;kernel_rfl;kernel_rfl;kernel_rfl;exact rfl;exact rfl)|fail)
 refine RetK.pure rfl (Le.of_eq ?_) rfl
 simp[pack]
theorem zmA(s:Str)(c:UInt8):Pure Tryz.prog 337 [.s s,.s [c]] (.i (Lib.indexByte s c)):=by
 refine so Tryz.func337 ?_
 repeat' (first|refine wk ?_|exact wkc|intro hc|refine wk2 ?_ ?_|refine wv (zgO s c) ?_|fail)
 ·subst hc
  rw[show Lib.indexByte [c] c=0 from by simp[Lib.indexByte]]
  exact wkr
 ·exact wkr
theorem zoO(s:Str)(c:UInt8)(hs:s.length≤1000000000):Pure Tryz.prog 333 [.s s,.s [c]] (.tup [.s (cutS s c).1,.s (cutS s c).2.1,.b (cutS s c).2.2]):=by
 have hi:=zmA s c
 rw[zfD]at hi
 by_cases hm:c∈s
 ·rw[if_pos hm]at hi
  have hle:=zrJ (· != c) s
  have hlt:(s.takeWhile (· != c)).length<s.length:=by
   refine Nat.lt_of_le_of_ne hle fun e=>?_
   have:∀l:Str,(l.takeWhile (· != c)).length=l.length->c ∉ l:=by
    intro l
    induction l with
    | nil=>simp
    | cons a l ih=>
      intro h
      by_cases ha:(a != c)=true
      ·simp only[qbk,ha,if_true,qam]at h
       have:=ih (by omega)
       simp at ha
       simp[this];exact fun e=>ha e.symm
      ·simp[qbk,ha]at h
   exact this s e hm
  have htk:s.takeWhile (· != c)=s.take (s.takeWhile (· != c)).length:=by
   conv=>rhs;arg 2;rw[<-qbK (p:=(· != c)) (l:=s)]
   rw[qcM]
  simp only[cutS,hm,if_true]
  rw[htk]
  have hlen:(s.take (s.takeWhile (· != c)).length).length=(s.takeWhile (· != c)).length:=by rw[<-htk]
  rw[hlen]
  generalize (s.takeWhile (· != c)).length=k at hi hlt hle⊢
  clear htk hlen
  refine so Tryz.func333 ?_
  repeat' (first|refine wk ?_|exact wkc|intro hc|refine wk2 ?_ ?_|refine wv hi ?_|(apply TO.zfR (a:=k+1) zag;(iterate 5 exact rfl);omega)|fail)
  exact wkr
 ·rw[if_neg hm]at hi
  simp only[cutS,hm,if_false]
  refine so Tryz.func333 ?_
  repeat' (first|refine wk ?_|exact wkc|intro hc|refine wk2 ?_ ?_|refine wv hi ?_|fail)
  exact wkr
theorem zpU(s:Str)(c:UInt8)(hs:s.length≤1000000000):Pure Tryz.prog 322 [.s s,.s [c]] (.tup [.s (cutS s c).1,.s (cutS s c).2.1,.b (cutS s c).2.2]):=by
 refine so Tryz.func322 ?_
 repeat' (first|refine wk ?_|exact wkc|intro hc|refine wk2 ?_ ?_|refine wv (zoO s c hs) ?_|fail)
 exact wkr
def endsIn(s:Str)(c:UInt8):Bool:=decide (1≤s.length) && s.drop (s.length-1) == [c]
theorem zk1(s:Str)(c:UInt8)(hs:s.length≤1000000000):Pure Tryz.prog 338 [.s s,.s [c]] (.b (endsIn s c)):=by
 by_cases h1:1≤s.length
 ·obtain⟨k,hk⟩:∃k,s.length=k+1:=⟨s.length-1,by omega⟩
  have hkk:s.length-1=k:=by omega
  have hki:(s.length:Int)-(([c]:Str).length:Int)=(k:Int):=by simp;omega
  refine so Tryz.func338 ?_
  repeat' (first|refine wk ?_|exact wkc|intro hc|refine wk2 ?_ ?_|(apply TO.zfR (a:=k) zag;(iterate 4 exact rfl);exact congrArg (fun z=>some (SV.i z)) hki;omega)|fail)
  all_goals
   refine RetK.pure rfl (Le.of_eq ?_) rfl
   simp only[pack,endsIn,hkk,h1,decide_true,qcN,SV.t.injEq,T.v.injEq,Value.bool.injEq]
   simp[hc]
 ·refine so Tryz.func338 ?_
  repeat' (first|refine wk ?_|exact wkc|intro hc|refine wk2 ?_ ?_|fail)
  all_goals first
   | (exfalso;simp at hc;omega)
   | (refine RetK.pure rfl (Le.of_eq ?_) rfl
      simp[pack,endsIn,h1])
def cutE(s:Str)(c:UInt8):Str×Bool:=if endsIn s c then(s.take (s.length-1),true) else(s,false)
theorem zmd(s:Str)(c:UInt8)(hs:s.length≤1000000000):Pure Tryz.prog 334 [.s s,.s [c]] (.tup [.s (cutE s c).1,.b (cutE s c).2]):=by
 have hf:=zk1 s c hs
 cases he:endsIn s c with
 | true=>
   rw[he]at hf
   have h1:1≤s.length:=by simp[endsIn]at he;omega
   obtain⟨k,hk⟩:∃k,s.length=k+1:=⟨s.length-1,by omega⟩
   have hkk:s.length-1=k:=by omega
   have hki:(s.length:Int)-(([c]:Str).length:Int)=(k:Int):=by simp;omega
   simp only[cutE,he,if_true,hkk]
   refine so Tryz.func334 ?_
   repeat' (first|refine wk ?_|exact wkc|intro hc|refine wk2 ?_ ?_|refine wv hf ?_|(apply TO.zeL (b:=k) zag;(iterate 4 exact rfl);exact congrArg (fun z=>some (SV.i z)) hki;omega)|fail)
   exact wkr
 | false=>
   rw[he]at hf
   simp only[cutE,he]
   refine so Tryz.func334 ?_
   repeat' (first|refine wk ?_|exact wkc|intro hc|refine wk2 ?_ ?_|refine wv hf ?_|fail)
   exact wkr
theorem zoP(s:Str)(c:UInt8)(hs:s.length≤1000000000):Pure Tryz.prog 323 [.s s,.s [c]] (.tup [.s (cutE s c).1,.b (cutE s c).2]):=by
 refine so Tryz.func323 ?_
 repeat' (first|refine wk ?_|exact wkc|intro hc|refine wk2 ?_ ?_|refine wv (zmd s c hs) ?_|fail)
 exact wkr
theorem zsi(s:Str)(c:UInt8):(cutS s c).1.length≤s.length/\(cutS s c).2.1.length≤s.length:=by
 unfold cutS
 split
 ·exact⟨zrJ _ _,by simp⟩
 ·simp
theorem zsh(s:Str)(c:UInt8):(cutE s c).1.length≤s.length:=by
 unfold cutE;split <;> simp
def zgl(s:Str):(Str×Str)×Int:=
 let a:=cutS s 40
 let b:=cutE a.2.1 41
 if 66<s.length then(([],[]),3)
 else if a.2.2=true/\b.2=true/\a.1.all bit=true/\b.1.all bit=true/\b.1.length≠0/\a.1.length+b.1.length≤64 then((a.1,b.1),0) else(([],[]),5)
theorem zlk(s:Str):Pure Tryz.prog 302 [.s s] (.tup [.t (zs8 (zgl s).1),.i (zgl s).2]):=by
 by_cases h66:66<s.length
 ·rw[show zgl s=(([],[]),3) from if_pos h66]
  refine so Tryz.func302 ?_
  repeat' (first|refine wk ?_|exact wkc|intro hc|refine wk2 ?_ ?_|fail)
  exact wkr
 ·have hs:s.length≤1000000000:=by omega
  have hq:zgl s=if(cutS s 40).2.2=true/\(cutE (cutS s 40).2.1 41).2=true/\(cutS s 40).1.all bit=true/\(cutE (cutS s 40).2.1 41).1.all bit=true/\(cutE (cutS s 40).2.1 41).1.length≠0/\(cutS s 40).1.length+(cutE (cutS s 40).2.1 41).1.length≤64
    then(((cutS s 40).1,(cutE (cutS s 40).2.1 41).1),0) else(([],[]),5):=if_neg h66
  have c1:=zpU s 40 hs
  have l1:=zsi s 40
  generalize cutS s 40=a at hq c1 l1
  obtain⟨fr,re,is⟩:=a
  simp only at hq c1 l1
  have c2:=zoP re 41 (by omega)
  have l2:=zsh re 41
  generalize cutE re 41=b at hq c2 l2
  obtain⟨bk,cl⟩:=b
  simp only at hq c2 l2
  have c3:=zfF fr (by omega)
  have c4:=zfF bk (by omega)
  have hW:∀ {x:Int},Pure Tryz.prog 302 [.s s] (.tup [.t (zs8 ([],[])),.i 5])->zgl s=(([],[]),5)->Pure Tryz.prog 302 [.s s] (.tup [.t (zs8 (zgl s).1),.i (zgl s).2]):=fun h e=>by rw[e];exact h
  cases is with
  | false=>
    refine hW (x:=0) ?_ (by rw[hq,if_neg (by simp)])
    refine so Tryz.func302 ?_
    repeat' (first|refine wk ?_|exact wkc|intro hc|refine wk2 ?_ ?_|refine wv c1 ?_|refine wv c2 ?_|refine wv c3 ?_|refine wv c4 ?_|fail)
    all_goals exact wkr
  | true=>
    cases cl with
    | false=>
      refine hW (x:=0) ?_ (by rw[hq,if_neg (by simp)])
      refine so Tryz.func302 ?_
      repeat' (first|refine wk ?_|exact wkc|intro hc|refine wk2 ?_ ?_|refine wv c1 ?_|refine wv c2 ?_|refine wv c3 ?_|refine wv c4 ?_|fail)
      all_goals exact wkr
    | true=>
      cases h1:fr.all bit with
      | false=>
        rw[h1]at c3
        refine hW (x:=0) ?_ (by rw[hq,if_neg (by simp[h1])])
        refine so Tryz.func302 ?_
        repeat' (first|refine wk ?_|exact wkc|intro hc|refine wk2 ?_ ?_|refine wv c1 ?_|refine wv c2 ?_|refine wv c3 ?_|refine wv c4 ?_|fail)
        all_goals exact wkr
      | true=>
        rw[h1]at c3
        cases h2:bk.all bit with
        | false=>
          rw[h2]at c4
          refine hW (x:=0) ?_ (by rw[hq,if_neg (by simp[h2])])
          refine so Tryz.func302 ?_
          repeat' (first|refine wk ?_|exact wkc|intro hc|refine wk2 ?_ ?_|refine wv c1 ?_|refine wv c2 ?_|refine wv c3 ?_|refine wv c4 ?_|fail)
          all_goals exact wkr
        | true=>
          rw[if_pos rfl]at c3
          rw[h2,if_pos rfl]at c4
          have c5:=zkz fr bk (by omega) (by omega)
          by_cases e1:bk.length=0
          ·rw[if_pos e1]at c5
           refine hW (x:=0) ?_ (by rw[hq,if_neg (by simp[e1])])
           exact zwbo
          ·rw[if_neg e1]at c5
           by_cases e2:64<fr.length+bk.length
           ·rw[if_pos e2]at c5
            refine hW (x:=0) ?_ (by rw[hq,if_neg (by rintro⟨-,-,-,-,-,h⟩;omega)])
            exact zwbo
           ·rw[if_neg e2]at c5
            rw[hq,if_pos ⟨rfl,rfl,h1,h2,e1,by omega⟩]
            exact zwbo
theorem ztX{c:UInt8}(h:bit c=true):c≠40/\c≠41:=by
 refine⟨fun e=>?_,fun e=>?_⟩ <;> (subst e;revert h;decide)
theorem zmj(p:UInt8->Bool)(l:Str):l=l.takeWhile p++l.drop (l.takeWhile p).length:=by
 conv=>lhs;rw[<-qbK (p:=p) (l:=l)]
 congr 1
 conv=>rhs;arg 2;rw[<-qbK (p:=p) (l:=l)]
 rw[qcL]
theorem zfV(p:UInt8->Bool):∀(a:Str) (c:UInt8) (b:Str),a.all p=true->p c=false->(a++c::b).takeWhile p=a
 | [],c,b,_,hc=>by simp[qbk,hc]
 | x::a,c,b,h,hc=>by
   simp only[qbH,qaA]at h
   simp[qbk,h.1,zfV p a c b h.2 hc]
theorem zoo(p:UInt8->Bool):∀(l:Str),(l.takeWhile p).all p=true
 | []=>rfl
 | a::l=>by
   by_cases h:p a=true
   ·simp only[qbk,h,if_true,qbH,qcN];exact zoo p l
   ·simp[qbk,h]
def wshape(s h l:Str):Prop:=s=h++40::(l++[41])/\h.all bit=true/\l.all bit=true/\l≠ []
theorem zik{s h l:Str}(hs:¬66<s.length)(w:wshape s h l):zgT s=((h,l),0):=by
 obtain⟨rfl,h1,h2,h3⟩:=w
 have e1:(h++40::(l++[41])).takeWhile bit=h:=zfV bit h 40 _ h1 (by decide)
 have e2:(l++[41]).takeWhile bit=l:=zfV bit l 41 [] h2 (by decide)
 unfold zgT
 rw[if_neg hs,e1,qcL]
 simp only[e2,qcL]
 rw[if_pos ⟨trivial,h3⟩]
theorem zrW{s:Str}(hs:¬66<s.length):(∃h l,wshape s h l)\/zgT s=(([],[]),5):=by
 unfold zgT
 rw[if_neg hs]
 split
 ·rename_i r hr
  split
  ·rename_i h
   refine .inl ⟨s.takeWhile bit,r.takeWhile bit,?_,zoo _ _,zoo _ _,h.2⟩
   have e1:=zmj bit s
   have e2:=zmj bit r
   rw[hr]at e1
   rw[h.1]at e2
   rw[<-e2];exact e1
  ·exact .inr rfl
 ·exact .inr rfl
theorem zil{s h l:Str}(hs:¬66<s.length)(w:wshape s h l):zgl s=((h,l),0):=by
 obtain⟨rfl,h1,h2,h3⟩:=w
 have hne:∀(a:Str),a.all bit=true->a.all (· != 40)=true:=fun a ha=>qaz.2 fun c hc=>by
  have:=(ztX (qaz.1 ha c hc)).1
  simpa using this
 have e1:(h++40::(l++[41])).takeWhile (· != 40)=h:=zfV _ h 40 _ (hne h h1) (by decide)
 have e2:cutS (h++40::(l++[41])) 40=(h,l++[41],true):=by
  unfold cutS
  rw[if_pos (by simp),e1]
  have:(h++40::(l++[41])).drop (h.length+1)=l++[41]:=by
   rw[show h++40::(l++[41])=(h++[40])++(l++[41]) from by simp]
   exact List.drop_left' (by simp)
  rw[this]
 have e3:cutE (l++[41]) 41=(l,true):=by
  unfold cutE endsIn
  simp
 have e4:l.length≠0:=fun e=>h3 (qaP e)
 unfold zgl
 simp only[if_neg hs,e2,e3]
 rw[if_pos]
 simp only[qae,qam,qaE]at hs
 exact⟨by trivial,by trivial,h1,h2,e4,by omega⟩
theorem zrX{s:Str}(hs:¬66<s.length):(∃h l,wshape s h l)\/zgl s=(([],[]),5):=by
 unfold zgl
 simp only[if_neg hs]
 split
 ·rename_i h
  obtain⟨h1,h2,h3,h4,h5,h6⟩:=h
  refine .inl ⟨(cutS s 40).1,(cutE (cutS s 40).2.1 41).1,?_,h3,h4,fun e=>h5 (by rw[e];rfl)⟩
  have g1:(cutE (cutS s 40).2.1 41).1++[41]=(cutS s 40).2.1:=by
   generalize (cutS s 40).2.1=r at h2⊢
   unfold cutE at h2⊢
   split
   ·rename_i he
    unfold endsIn at he
    simp only[qaA,decide_eq_true_eq,beq_iff_eq]at he
    have:=qaV (r.length-1) r
    rw[he.2]at this
    exact this
   ·rename_i he;rw[if_neg he]at h2;cases h2
  rw[g1]
  clear h2 h3 h4 h5 h6 g1
  unfold cutS at h1⊢
  split
  ·rename_i hm
   have e1:=zmj (· != 40) s
   have hend:∀c,s[(s.takeWhile (· != 40)).length]?=some c->c=40:=fun c hc=>by
    have:=ztG (· != 40) s c hc
    simpa using this
   cases hd:s.drop (s.takeWhile (· != 40)).length with
   | nil=>
     rw[hd,qaQ]at e1
     rw[e1]at hm
     have:=qaz.1 (zoo (· != 40) s) 40 hm
     simp at this
   | cons c r=>
     have hx:s[(s.takeWhile (· != 40)).length]?=some c:=by
      have:=qa9 (xs:=s) (i:=(s.takeWhile (· != 40)).length) (j:=0)
      rw[hd]at this
      simpa using this.symm
     have:=hend c hx
     subst this
     rw[<-List.tail_drop,hd,List.tail_cons,<-hd]
     exact e1
  ·rename_i hm;rw[if_neg hm]at h1;cases h1
 ·exact .inr rfl
theorem zs7(s:Str):zgl s=zgT s:=by
 by_cases hs:66<s.length
 ·unfold zgl zgT;rw[if_pos hs];simp[hs]
 ·rcases zrW hs with ⟨h,l,w⟩|h
  ·rw[zik hs w,zil hs w]
  ·rcases zrX hs with ⟨h',l,w⟩|h'
   ·rw[zik hs w,zil hs w]
   ·rw[h,h']
theorem zll(s:Str):Pure Tryz.prog 302 [.s s] (.tup [.t (zs8 (zgT s).1),.i (zgT s).2]):=by
 rw[<-zs7];exact zlk s
def letter(c:Int):Bool:=(decide (97≤c) && decide (c≤122)) || (decide (65≤c) && decide (c≤90))
def digit(c:Int):Bool:=decide (48≤c) && decide (c≤57)
def inner(c:Int):Bool:=letter c || digit c || c == 95
abbrev u8 (c:Int):SV:=.t (.v (.int .u8 c))
theorem zeu(c:Int):Pure Tryz.prog 252 [u8 c] (.b (letter c)):=by
 refine so Tryz.func252 ?_
 repeat' (first|refine wk ?_|exact wkc|intro hc|refine wk2 ?_ ?_|fail)
 all_goals try(refine RetK.pure rfl ?_ rfl;exact Le.of_eq (by simp_all [pack,letter] <;> omega))
theorem zmi(c:Int):Pure Tryz.prog 300 [u8 c] (.b (digit c)):=by
 refine so Tryz.func300 ?_
 repeat' (first|refine wk ?_|exact wkc|intro hc|refine wk2 ?_ ?_|fail)
 all_goals try(refine RetK.pure rfl ?_ rfl;exact Le.of_eq (by simp_all [pack,digit] <;> omega))
theorem zmB(c:Int):Pure Tryz.prog 254 [u8 c] (.b (inner c)):=by
 refine so Tryz.func254 ?_
 repeat' (first|refine wk ?_|exact wkc|intro hc|refine wk2 ?_ ?_|refine wb (zeu _) ?_ ?_|refine wb (zmi _) ?_ ?_|fail)
 all_goals try(refine RetK.pure rfl ?_ rfl;exact Le.of_eq (by simp_all [pack,inner] <;> omega))
def kws:List Str:=[
 [97,115,115,117,109,101],[97,110,100],[97,117,116,111,109,97,116,111,110],[98,111,111,108],[99,111,110,116,105,110,117,101],[100,111],[100,111,110,101],[101,108,115,101],[101,110,100],[101,110,115,117,114,101],[101,118,101,114,121],[102,97,108,115,101],[102,98,121],[105,102],[105,110,116],[108,101,116],[109,101,114,103,101],[109,111,100],[110,111,100,101],[110,111,116],[111,114],[112,114,101],[114,101,116,117,114,110,115],[115,116,97,116,101],[116,101,108],[116,104,101,110],[116,114,117,101],[116,121,112,101],[117,110,108,101,115,115],[117,110,116,105,108],[118,97,114],[119,104,101,110],[120,111,114]]
def keyword(s:Str):Bool:=kws.any fun w=>s == w
set_option maxHeartbeats 4000000 in
theorem zfE (s:Str):Pure Tryz.prog 253 [.s s] (.b (keyword s)):=by
 refine so Tryz.func253 ?_
 repeat' (first|refine wk ?_|exact wkc|intro hc|refine wk2 ?_ ?_|fail)
 all_goals refine RetK.pure rfl ?_ rfl
 all_goals exact Le.of_eq (by simp[keyword,kws,pack, *])
def zi5(c:UInt8):Bool:=inner c.toNat
def zmG(c:UInt8):Bool:=letter c.toNat
def ident(s:Str):Bool:=
 match s with
 | []=>false
 | c::r=>decide (r.length+1≤40) && zmG c && !keyword (c::r) && (c::r).all zi5
theorem zhJ(s:Str):Pure Tryz.prog 201 [.s s] (.b (ident s)):=by
 refine so Tryz.func201 ?_
 cases s with
 | nil=>
   repeat' (first|refine wk ?_|exact wkc|intro hc|refine wk2 ?_ ?_|refine wb (zeu _) ?_ ?_|refine wb (zfE _) ?_ ?_|fail)
   all_goals try(refine RetK.pure rfl ?_ rfl;exact Le.of_eq (by simp_all [pack,ident] <;> omega))
 | cons c r=>
   repeat' (first|refine wk ?_|exact wkc|intro hc|refine wk2 ?_ ?_|refine wb (zeu _) ?_ ?_|refine wb (zfE _) ?_ ?_|fail)
   all_goals try(refine RetK.pure rfl ?_ rfl;exact Le.of_eq (by simp_all [pack,ident,zmG] <;> omega))
   refine TR.zal (c::r).length (fun k=>((c::r).take k).all zi5=true) (fun k=>[(0,.s (c::r)),(22,.i (c::r).length),(23,.i k)]) (fun _=>[]) rfl (fun k hlt ha=>?_) (fun ha=>?_)
   ·have hx:=qac hlt
    repeat' (first|refine wk ?_|exact wkc|intro hc|refine wk2 ?_ ?_|refine wb (zmB _) ?_ ?_|fail)
    ·refine zab.zaw hlt ?_
     rw[qax hlt,qbJ,ha]
     simpa [zi5]using hc
    ·refine RetK.pure rfl (Le.of_eq ?_) rfl
     have:(c::r).all zi5=false:=by
      rw[qbX]
      exact⟨_,qad hlt,by simpa [zi5]using hc⟩
     simp only[pack,ident,this]
     simp
   ·repeat' (first|refine wk ?_|exact wkc|intro hc|refine wk2 ?_ ?_|fail)
    rw[qag]at ha
    refine RetK.pure rfl (Le.of_eq ?_) rfl
    simp_all [pack,ident,zmG]
    omega
def inW(v:Int):Bool:=decide (-32768≤v) && decide (v≤32767)
theorem zsz(v:Int):Pure Tryz.prog 256 [.i v] (.b (inW v)):=by
 refine so Tryz.func256 ?_
 repeat' (first|refine wk ?_|exact wkc|intro hc|refine wk2 ?_ ?_|fail)
 all_goals try(refine RetK.pure rfl ?_ rfl;exact Le.of_eq (by simp_all [pack,inW] <;> omega))
abbrev ensT (es:List En):T:=.sl 2 (es.map enT)
def zkQ(es:List En)(t:Int):En×Bool:=
 if 3≤t/\t-3<es.length then(match es[(t-3).toNat]? with|some e=>(e,true)|none=>(⟨[],[]⟩,false)) else(⟨[],[]⟩,false)
def zcZ(es:List En)(t:Int):Int:=
 if t=1 then 2 else if t=2 then 65536 else((zkQ es t).1.tags.length:Int)
def hasT(es:List En)(t v:Int):Bool:=if t=2 then inW v else decide (0≤v) && decide (v<zcZ es t)
theorem zoS(es:List En)(t:I64):Pure Tryz.prog 255 [.t (ensT es),.n t] (.tup [.t (enT (zkQ es t.1).1),.b (zkQ es t.1).2]):=by
 obtain⟨t,ht1,ht2⟩:=t
 dsimp only[SV.n]
 refine so Tryz.func255 ?_
 have hl:(es.map enT).length=es.length:=qaa _
 by_cases h:3≤t/\t-3<es.length
 ·obtain⟨h1,h2⟩:=h
  have hlt:(t-3).toNat<es.length:=by omega
  have hx:=zas enT hlt
  repeat' (first|refine wk ?_|exact wkc|intro hc|refine wk2 ?_ ?_|fail)
  simp only[zkQ,h1,h2,hlt,enT,and_self,if_true,qac]
  exact wkr
 ·repeat' (first|refine wk ?_|exact wkc|intro hc|refine wk2 ?_ ?_|fail)
  all_goals
   simp only[zkQ,h,enT,if_false]
   exact wkr
theorem zgf(es:List En)(t:I64):Pure Tryz.prog 202 [.t (ensT es),.n t] (.i (zcZ es t.1)):=by
 refine so Tryz.func202 ?_
 repeat' (first|refine wk ?_|exact wkc|intro hc|refine wk2 ?_ ?_|refine wv (zoS es t) ?_|fail)
 ·refine RetK.pure rfl (Le.of_eq ?_) rfl
  simp[pack,zcZ,hc]
 ·refine RetK.pure rfl (Le.of_eq ?_) rfl
  simp[pack,zcZ,hc]
 ·refine RetK.pure rfl (Le.of_eq ?_) rfl
  simp[pack,zcZ, *]
theorem zk2(es:List En)(t v:I64):Pure Tryz.prog 203 [.t (ensT es),.n t,.n v] (.b (hasT es t.1 v.1)):=by
 refine so Tryz.func203 ?_
 repeat' (first|refine wk ?_|exact wkc|intro hc|refine wk2 ?_ ?_|refine wv (zsz v.1) ?_|refine wv (zgf es t) ?_|fail)
 all_goals
  refine RetK.pure rfl (Le.of_eq ?_) rfl
  simp_all [pack,hasT] <;> omega
def zdf(o:Int):Int:=
 if o=1\/o=3\/o=4\/o=5 then 1 else if o=2\/6≤o/\o≤10 then 2 else if o=11\/o=12 then 3 else if 13≤o/\o≤16 then 4 else 0
def opN(o:Int):Int:=if o=1\/o=2 then 1 else if 3≤o/\o≤16 then 2 else 0
theorem zgD(o:Int):(zdf o=0/\(o<1\/16<o))\/(zdf o=1/\(o=1\/o=3\/o=4\/o=5))\/(zdf o=2/\(o=2\/6≤o/\o≤10))\/(zdf o=3/\(o=11\/o=12))\/(zdf o=4/\13≤o/\o≤16):=by
 unfold zdf;repeat' split
 all_goals omega
theorem zlj(o:Int):(opN o=1/\(o=1\/o=2))\/(opN o=2/\3≤o/\o≤16)\/(opN o=0/\(o<1\/16<o)):=by
 unfold opN;repeat' split
 all_goals omega
theorem zmx(o:Int):Pure Tryz.prog 244 [.i o] (.tup [.i (zdf o),.i (opN o)]):=by
 have h1:=zgD o
 have h2:=zlj o
 generalize zdf o=a at h1⊢
 generalize opN o=b at h2⊢
 refine so Tryz.func244 ?_
 repeat' (first|refine wk ?_|exact wkc|intro hc|refine wk2 ?_ ?_|fail)
 all_goals
  refine RetK.pure rfl (Le.of_eq ?_) rfl
  simp only[pack,SV.tup.injEq,qbg,SV.t.injEq,T.v.injEq,Value.int.injEq,true_and,and_true]
  omega
abbrev zeS (l:List Int):T:=.sl 1 (l.map T.i)
def okTy(k t0 t:Int):Bool:=if k=1 then decide (t=1) else if k=3 then decide (t=t0) && decide (1≤t) else decide (t=2)
def zbs(o:Int)(ts:List Int):Int×Int:=
 if zdf o=0 then(0,2) else if(ts.length:Int)≠opN o then(0,9) else if ts.all (okTy (zdf o) (ts.headD 0)) then(if zdf o=2 then 2 else 1,0) else(0,10)
theorem zjt{l:List Int}{k:Nat}(h:k<l.length):(l.map T.i)[k]?=some (T.i l[k]):=by simp[h]
theorem zlr(o:Int)(ts:List Int):Pure Tryz.prog 166 [.i o,.t (zeS ts)] (.tup [.i (zbs o ts).1,.i (zbs o ts).2]):=by
 refine so Tryz.func166 ?_
 have hl:(ts.map T.i).length=ts.length:=qaa _
 have hk:=zgD o
 have hn:=zlj o
 repeat' (first|refine wk ?_|exact wkc|intro hc|refine wk2 ?_ ?_|refine wv (zmx o) ?_|fail)
 ·rw[show zbs o ts=(0,2) from if_pos hc];exact wkr
 ·rename_i h0
  rw[show zbs o ts=(0,9) from by simp only[zbs,if_neg h0];exact if_pos (by omega)];exact wkr
 ·rename_i h0
  have hlen:(ts.length:Int)=opN o:=by omega
  have hr:zbs o ts=if ts.all (okTy (zdf o) (ts.headD 0)) then(if zdf o=2 then 2 else 1,0) else(0,10):=by
   simp only[zbs,if_neg h0];exact if_neg (by omega)
  rw[hr]
  clear hr
  have hx0:(ts.map T.i)[(0:Int).toNat]?=some (T.i (ts.headD 0)):=by
   cases ts with
   | nil=>simp at hlen;omega
   | cons a l=>rfl
  generalize ts.headD 0=t0 at hx0⊢
  generalize zdf o=k at h0 hk⊢
  refine TR.zal ts.length (fun j=>(ts.take j).all (okTy k t0)=true) (fun j=>[(1,.t (zeS ts)),(6,.i k),(23,.t (zeS ts)),(24,.i ts.length),(25,.i j)]) (fun _=>[]) rfl (fun j hlt ha=>?_) (fun ha=>?_) ⟨rfl,rfl,rfl,by rw[<-hl];rfl,rfl,trivial⟩
  ·have hx:=zjt hlt
   have htk:=qax hlt
   have hm:=qad hlt
   generalize ts[j]=t at hx htk hm
   repeat' (first|refine wk ?_|exact wkc|intro hc|refine wk2 ?_ ?_|fail)
   all_goals first
    | (refine zab.zaw hlt ?_;rw[htk,qbJ,ha];simp_all [okTy];done)
    | (refine zab.zaw hlt ?_;rw[htk,qbJ,ha];simp_all [okTy];omega)
    | (have:ts.all (okTy k t0)=false:=qbX.2 ⟨t,hm,by simp_all [okTy]⟩
       simp only[this];exact wkr)
    | (have:ts.all (okTy k t0)=false:=qbX.2 ⟨t,hm,by simp_all [okTy];omega⟩
       simp only[this];exact wkr)
  ·rw[qag]at ha
   rw[ha]
   repeat' (first|refine wk ?_|exact wkc|intro hc|refine wk2 ?_ ?_|fail)
   ·simp only[hc,if_true];exact wkr
   ·simp only[hc,if_true,if_false];exact wkr
def tagI(t v:Int):Bool:=(decide (t=1) && (decide (v=0) || decide (v=1))) || (decide (3≤t) && decide (0≤v) && decide (v<16))
def zpC(t n:Int):Bool:=(decide (t=1) && decide (n=2)) || (decide (3≤t) && decide (1≤n) && decide (n≤16))
def opdI(o:Int):Int:=if o=1\/o=2 then 1 else 2
theorem zrF(t v:Int):Pure Tryz.prog 319 [.i t,.i v] (.b (tagI t v)):=by
 refine so Tryz.func319 ?_
 repeat' (first|refine wk ?_|exact wkc|intro hc|refine wk2 ?_ ?_|fail)
 all_goals try(refine RetK.pure rfl ?_ rfl;exact Le.of_eq (by simp_all [pack,tagI] <;> omega))
theorem zio(t n:Int):Pure Tryz.prog 321 [.i t,.i n] (.b (zpC t n)):=by
 refine so Tryz.func321 ?_
 repeat' (first|refine wk ?_|exact wkc|intro hc|refine wk2 ?_ ?_|fail)
 all_goals try(refine RetK.pure rfl ?_ rfl;exact Le.of_eq (by simp_all [pack,zpC] <;> omega))
theorem zo9(o:Int):Pure Tryz.prog 320 [.i o] (.i (opdI o)):=by
 refine so Tryz.func320 ?_
 repeat' (first|refine wk ?_|exact wkc|intro hc|refine wk2 ?_ ?_|fail)
 all_goals try(refine RetK.pure rfl ?_ rfl;exact Le.of_eq (by simp_all [pack,opdI] <;> omega))
structure Form where
 args:Bool
 op:Bool
 typed:Bool
 name:Bool
 word:Bool
abbrev zuj (f:Form):T:=.ag [.b f.args,.b f.op,.b f.typed,.b f.name,.b f.word]
def ofF(k o t v n:Int):Form:=
 if k=1 then⟨decide (n=0),false,(decide (t=2) && decide (-32768≤v) && decide (v≤32767)) || (!decide (t=2) && tagI t v),false,false⟩
 else if k=2 then⟨decide (n=0),false,decide (t=0) && decide (v=0),true,false⟩
 else if k=3 then⟨decide (n=opdI o),true,decide (t=0) && decide (v=0),false,false⟩
 else if k=4 then⟨decide (n=3),false,decide (t=0) && decide (v=0),false,false⟩
 else if k=5 then⟨decide (n=1),false,decide (t=0) && decide (v=0),false,false⟩
 else if k=6\/k=7 then⟨decide (n=2),false,decide (t=0) && decide (v=0),false,false⟩
 else if k=8 then⟨decide (n=1),false,!decide (t=2) && tagI t v,true,false⟩
 else if k=9 then⟨!decide (t=2) && zpC t n,false,decide (v=0),true,false⟩
 else if k=10 then⟨decide (v≤n),false,decide (t=0) && (decide (v=0) || decide (v=1)),true,false⟩
 else if k=11 then⟨decide (n=0),false,decide (t=0) && decide (v=0),false,true⟩
 else⟨false,false,false,false,false⟩
set_option maxHeartbeats 2000000 in
theorem zsO (k o t v:Int) (nm:Str) (l:List T):Pure Tryz.prog 301 [.t (.ag [.i k,.i o,.i t,.i v,.s nm,.sl 6 l])] (.t (zuj (ofF k o t v l.length))):=by
 have ht:=zrF t v
 have hb:=zio t l.length
 have ho:=zo9 o
 have hk:k=1\/k=2\/k=3\/k=4\/k=5\/k=6\/k=7\/k=8\/k=9\/k=10\/k=11\/(k<1\/11<k):=by omega
 rcases hk with rfl|rfl|rfl|rfl|rfl|rfl|rfl|rfl|rfl|rfl|rfl|hk
 all_goals
  first|rw[show ofF k o t v l.length=⟨false,false,false,false,false⟩ from by unfold ofF;repeat' (first|rw[if_neg (by omega)]|fail)]|simp only[ofF,Int.reduceEq,if_false,if_true,or_self,or_true,true_or,or_false,false_or]
  refine so Tryz.func301 ?_
  repeat' (first|refine wu ?_|exact wkc|intro hc|refine wk2 ?_ ?_|refine wv ht ?_|refine wv hb ?_|refine wv ho ?_|fail)
  all_goals
   refine RetK.pure rfl (Le.tree rfl (TLe.of_eq ?_)) rfl
   clear ht hb ho
   simp only[zuj,T.ag.injEq,qbg,T.v.injEq,Value.bool.injEq,and_true,true_eq_decide_iff,false_eq_decide_iff,eq_comm (a:=true),eq_comm (a:=false),qbS,qaA,Bool.or_eq_false_iff,Bool.and_eq_false_iff,qbV,Bool.not_eq_false',decide_eq_true_eq,decide_eq_false_iff_not,Bool.false_eq_true,true_and,reduceCtorEq] <;>
    first|omega|(simp_all;done)|(simp_all;omega)
def oneI(k o t v:Int)(nm:Str)(n:Int):Int:=
 if 64<n then 3
 else if(ofF k o t v n).args=false\/(ofF k o t v n).typed=false\/((ofF k o t v n).op≠decide (o≠0))\/((ofF k o t v n).op=true/\(o<1\/16<o)) then 5
 else if(ofF k o t v n).name=true then(if ident nm then 0 else 6)
 else if(ofF k o t v n).word=true/\(zgT nm).2=0 then 0
 else if nm≠ []\/(ofF k o t v n).word=true then 5 else 0
set_option maxHeartbeats 1000000 in
theorem zrf (k o t v:Int) (nm:Str) (l:List T):Pure Tryz.prog 260 [.t (.ag [.i k,.i o,.i t,.i v,.s nm,.sl 6 l])] (.i (oneI k o t v nm l.length)):=by
 have hf:=zsO k o t v nm l
 have hid:=zhJ nm
 have hw:=zll nm
 unfold oneI
 generalize ofF k o t v l.length=f at*
 generalize ident nm=id at*
 generalize zgT nm=w at*
 obtain⟨fa,fo,ft,fn,fw⟩:=f
 simp only[zuj]at hf
 obtain⟨w1,w2⟩:=w
 by_cases h64:64<(l.length:Int)
 ·rw[if_pos h64]
  refine so Tryz.func260 ?_
  repeat' (first|refine wu ?_|exact wkc|intro hc|refine wk2 ?_ ?_|fail)
  exact wkr
 ·rw[if_neg h64]
  cases fa with
  | false=>
    rw[if_pos (.inl rfl)]
    refine so Tryz.func260 ?_
    repeat' (first|refine wu ?_|exact wkc|intro hc|refine wk2 ?_ ?_|refine wv hf ?_|fail)
    exact wkr
  | true=>
    cases ft with
    | false=>
      rw[if_pos (.inr (.inl rfl))]
      refine so Tryz.func260 ?_
      repeat' (first|refine wu ?_|exact wkc|intro hc|refine wk2 ?_ ?_|refine wv hf ?_|fail)
      exact wkr
    | true=>
      simp only[qbG,false_or]
      cases fo <;> cases fn <;> cases fw
      all_goals
       refine so Tryz.func260 ?_
       repeat' (first|refine wu ?_|exact wkc|intro hc|refine wk2 ?_ ?_|refine wv hf ?_|refine wb hid ?_ ?_|refine wv hw ?_|fail)
       all_goals
        refine RetK.pure rfl (Le.of_eq ?_) rfl
        refine congrArg (fun z=>SV.t (T.v (Value.int IntKind.i64 z))) ?_
        clear hf hid hw
        first|(simp_all;done)|(simp_all;omega)
end Go.Proofs.YtpnnpgbaiobbjaaGreatDoor
