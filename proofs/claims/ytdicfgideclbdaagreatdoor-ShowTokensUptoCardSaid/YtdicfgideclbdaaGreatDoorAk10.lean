import Derived.Test.YtdicfgideclbdaaGreatDoorAk9
set_option maxHeartbeats 64000000
set_option linter.all false
namespace Go.Proofs.YtdicfgideclbdaaGreatDoor
open Go Go.TL
attribute [local irreducible] TR TO Then zaj RetK Sound zac Kf GG zaQ
def bit(c:UInt8):Bool:=decide ((c.toNat:Int)=48) || decide ((c.toNat:Int)=49)
abbrev bitT (c:UInt8):T:=.v (.bool (decide ((c.toNat:Int)=49)))
abbrev zrq (l:Str):T:=.sl 1 (l.map bitT)
theorem zwS(p:UInt8->Bool):∀(l:Str) (c:UInt8),l[(l.takeWhile p).length]?=some c->p c=false
 | [],c,h=>by simp at h
 | a::l,c,h=>by
   by_cases hp:p a=true
   ·simp only[qbk,hp,if_true,qae,qaU]at h;exact zwS p l c h
   ·simp only[qbk,hp]at h;simp at h;subst h;simpa using hp
theorem ztJ(p:UInt8->Bool):∀(l:Str),(l.takeWhile p).length≤l.length
 | []=>qag _
 | a::l=>by
   simp only[qbk];split
   ·have:=ztJ p l;simp;omega
   ·simp
theorem zlz(h l:Str)(hs:h.length≤1000)(hl:l.length≤1000):Pure Tryz.prog 188 [.t (.ag [zrq h,zrq l])] (.i (if l.length=0 then 5 else if 64<h.length+l.length then 3 else 0)):=by
 have h1:(h.map bitT).length=h.length:=qac _;have h2:(l.map bitT).length=l.length:=qac _;refine so Tryz.func188 ?_;repeat' (first|refine wu ?_|exact wkc|refine wk2 ?_ ?_|intro hc)
 ·rw[oG oA];exact wkr
 ·rw[oH oA,oG oA];exact wkr
 ·rw[oH oA,oH oA];exact wkr
theorem zf2(s:Str)(hs:s.length≤1000):Pure Tryz.prog 187 [.s s] (.tup [.t (zrq (if s.all bit then s else[])),.b (s.all bit)]):=by
 refine so Tryz.func187 ?_;repeat' (first|refine wk ?_|exact wkc|refine wk2 ?_ ?_|intro hc)
 refine TR.tail 1 4 rfl ?_;refine TR.zaz s.length (fun k=>(s.take k).all bit=true) (fun k=>[(0,.s s),(7,.i s.length),(8,.i k),(4,.sl 1 ((s.take k).map bitT) 0)]) (fun k=>[.tail ((s.take k).map bitT).length]) rfl (fun k hlt ha=>?_) (fun ha=>?_)
 ·have hx:=qad hlt;have htk:=qaE hlt;have hm:=qak hlt;generalize s[k]=c at hx htk hm;have hmk:((s.take k).map bitT).length≤1000:=oF
  repeat' (first|refine wk ?_|exact wkc|refine wk2 ?_ ?_|intro hc)
  all_goals first
   | (refine zac.zaH hlt (by rw[htk,qbY,ha];simp[bit];omega) ?_ ?_
      ·rw[htk,qaw];simp only[qaf,qaD,bitT, *];exact⟨rfl,rfl,rfl,rfl,trivial⟩
      ·rw[htk,qaw,qab];rfl)
   | (have h0:s.all bit=false:=List.all_eq_false.2 ⟨c,hm,by simp[bit];omega⟩
      rw[h0];simp only[Bool.false_eq_true,if_false,qaD];exact wkr)
   | (exfalso;simp_all;done)
 ·rw[qap]at ha⊢;rw[ha];refine yd ?_;exact wkr
def zez(s:Str):(Str×Str)×Int:=
 if 66<s.length then(([],[]),3) else
 match s.drop (s.takeWhile bit).length with
 | 40::r=>if r.drop (r.takeWhile bit).length=[41]/\r.takeWhile bit≠ [] then((s.takeWhile bit,r.takeWhile bit),0) else(([],[]),5)
 | _=>(([],[]),5)
abbrev zvp (w:Str×Str):T:=.ag [zrq w.1,zrq w.2]
def cutS(s:Str)(c:UInt8):Str×Str×Bool:=
 if c∈s then(s.takeWhile (· != c),s.drop ((s.takeWhile (· != c)).length+1),true) else(s,[],false)
theorem zf0(c:UInt8):∀(s:Str),Lib.indexByte s c=if c∈s then((s.takeWhile (· != c)).length:Int) else -1
 | []=>by simp[Lib.indexByte]
 | b::l=>by
   have ih:=zf0 c l;unfold Lib.indexByte;by_cases hb:b=c
   ·subst hb;simp
   ·have h1:(b == c)=false:=by simpa using hb
    have h2:(b != c)=true:=by simpa using hb
    rw[ih];by_cases hm:c∈l
    ·have:((l.takeWhile (· != c)).length:Int)≠ -1:=oA
     simp[h1,h2,hm,this,qbk]
    ·have hc:¬c=b:=fun e=>hb e.symm
     simp[h1,hm,hc]
theorem zhl(s:Str)(c:UInt8):Pure Tryz.prog 211 [.s s,.t (.v (.int .u8 c.toNat))] (.i (Lib.indexByte s c)):=by
 refine so Tryz.func211 ?_;repeat' (first|refine wk ?_|exact wkc|refine wk2 ?_ ?_|(apply TO.zhi;exact rfl;exact Tryz.func220;kernel_rfl;kernel_rfl;kernel_rfl;kernel_rfl;exact rfl;exact rfl)|intro hc)
 refine RetK.pure rfl (Le.of_eq ?_) rfl;simp[pack]
theorem znD(s:Str)(c:UInt8):Pure Tryz.prog 204 [.s s,.s [c]] (.i (Lib.indexByte s c)):=by
 refine so Tryz.func204 ?_;repeat' (first|refine wk ?_|exact wkc|refine wk2 ?_ ?_|refine wv (zhl s c) ?_|intro hc)
 ·subst hc;rw[show Lib.indexByte [c] c=0 from by simp[Lib.indexByte]];exact wkr
 ·exact wkr
theorem zql(s:Str)(c:UInt8)(hs:s.length≤1000000000):Pure Tryz.prog 197 [.s s,.s [c]] (.tup [.s (cutS s c).1,.s (cutS s c).2.1,.b (cutS s c).2.2]):=by
 have hi:=znD s c;rw[zf0]at hi;by_cases hm:c∈s
 ·rw[oG hm]at hi;have hle:=ztJ (· != c) s
  have hlt:(s.takeWhile (· != c)).length<s.length:=by
   refine Nat.lt_of_le_of_ne hle fun e=>?_
   have:∀l:Str,(l.takeWhile (· != c)).length=l.length->c ∉ l:=by
    intro l
    induction l with
    | nil=>simp
    | cons a l ih=>
      intro h;by_cases ha:(a != c)=true
      ·simp only[qbk,ha,if_true,qae]at h
       have:=ih oA
       simp at ha;simp[this];exact fun e=>ha e.symm
      ·simp[qbk,ha]at h
   exact this s e hm
  have htk:s.takeWhile (· != c)=s.take (s.takeWhile (· != c)).length:=by
   conv=>rhs;arg 2;rw[<-qbh (p:=(· != c)) (l:=s)]
   rw[qcB]
  simp only[cutS,hm,if_true];rw[htk];have hlen:(s.take (s.takeWhile (· != c)).length).length=(s.takeWhile (· != c)).length:=by rw[<-htk]
  rw[hlen];generalize (s.takeWhile (· != c)).length=k at hi hlt hle⊢;clear htk hlen;refine so Tryz.func197 ?_;repeat' (first|refine wk ?_|exact wkc|refine wk2 ?_ ?_|refine wv hi ?_|(apply TO.zhD (a:=k+1) zaf;(iterate 5 exact rfl);omega)|intro hc)
  exact wkr
 ·rw[oH hm]at hi;simp only[cutS,hm,if_false];refine so Tryz.func197 ?_;repeat' (first|refine wk ?_|exact wkc|refine wk2 ?_ ?_|refine wv hi ?_|intro hc)
  exact wkr
theorem zrG(s:Str)(c:UInt8)(hs:s.length≤1000000000):Pure Tryz.prog 185 [.s s,.s [c]] (.tup [.s (cutS s c).1,.s (cutS s c).2.1,.b (cutS s c).2.2]):=by
 refine so Tryz.func185 ?_;repeat' (first|refine wk ?_|exact wkc|refine wk2 ?_ ?_|refine wv (zql s c hs) ?_|intro hc)
 exact wkr
def endsIn(s:Str)(c:UInt8):Bool:=decide (1≤s.length) && s.drop (s.length-1) == [c]
theorem zlU(s:Str)(c:UInt8)(hs:s.length≤1000000000):Pure Tryz.prog 205 [.s s,.s [c]] (.b (endsIn s c)):=by
 by_cases h1:1≤s.length
 ·obtain⟨k,hk⟩:∃k,s.length=k+1:=⟨s.length-1,oA⟩;have hkk:s.length-1=k:=oA
  have hki:(s.length:Int)-(([c]:Str).length:Int)=(k:Int):=oF
  refine so Tryz.func205 ?_;repeat' (first|refine wk ?_|exact wkc|refine wk2 ?_ ?_|(apply TO.zhD (a:=k) zaf;(iterate 4 exact rfl);exact oJ (fun z=>some (SV.i z)) hki;omega)|intro hc)
  all_goals
   refine RetK.pure rfl (Le.of_eq ?_) rfl;simp only[pack,endsIn,hkk,h1,decide_true,qcq,SV.t.injEq,T.v.injEq,Value.bool.injEq];simp[hc]
 ·refine so Tryz.func205 ?_;repeat' (first|refine wk ?_|exact wkc|refine wk2 ?_ ?_|intro hc)
  all_goals first
   | (exfalso;simp at hc;omega)
   | (refine RetK.pure rfl (Le.of_eq ?_) rfl
      simp[pack,endsIn,h1])
def cutE(s:Str)(c:UInt8):Str×Bool:=if endsIn s c then(s.take (s.length-1),true) else(s,false)
theorem zno(s:Str)(c:UInt8)(hs:s.length≤1000000000):Pure Tryz.prog 198 [.s s,.s [c]] (.tup [.s (cutE s c).1,.b (cutE s c).2]):=by
 have hf:=zlU s c hs;cases he:endsIn s c with
 | true=>
   rw[he]at hf;have h1:1≤s.length:=by simp[endsIn]at he;omega
   obtain⟨k,hk⟩:∃k,s.length=k+1:=⟨s.length-1,oA⟩;have hkk:s.length-1=k:=oA
   have hki:(s.length:Int)-(([c]:Str).length:Int)=(k:Int):=oF
   simp only[cutE,he,if_true,hkk];refine so Tryz.func198 ?_;repeat' (first|refine wk ?_|exact wkc|refine wk2 ?_ ?_|refine wv hf ?_|(apply TO.zgf (b:=k) zaf;(iterate 4 exact rfl);exact oJ (fun z=>some (SV.i z)) hki;omega)|intro hc)
   exact wkr
 | false=>
   rw[he]at hf;simp only[cutE,he];refine so Tryz.func198 ?_;repeat' (first|refine wk ?_|exact wkc|refine wk2 ?_ ?_|refine wv hf ?_|intro hc)
   exact wkr
theorem zqm(s:Str)(c:UInt8)(hs:s.length≤1000000000):Pure Tryz.prog 186 [.s s,.s [c]] (.tup [.s (cutE s c).1,.b (cutE s c).2]):=by
 refine so Tryz.func186 ?_;repeat' (first|refine wk ?_|exact wkc|refine wk2 ?_ ?_|refine wv (zno s c hs) ?_|intro hc)
 exact wkr
theorem zuh(s:Str)(c:UInt8):(cutS s c).1.length≤s.length/\(cutS s c).2.1.length≤s.length:=by
 unfold cutS;split
 ·exact⟨ztJ _ _,oC⟩
 ·simp
theorem zug(s:Str)(c:UInt8):(cutE s c).1.length≤s.length:=by
 unfold cutE;split <;> simp
def zgR(s:Str):(Str×Str)×Int:=
 let a:=cutS s 40
 let b:=cutE a.2.1 41
 if 66<s.length then(([],[]),3)
 else if a.2.2=true/\b.2=true/\a.1.all bit=true/\b.1.all bit=true/\b.1.length≠0/\a.1.length+b.1.length≤64 then((a.1,b.1),0) else(([],[]),5)
theorem zmk(s:Str):Pure Tryz.prog 161 [.s s] (.tup [.t (zvp (zgR s).1),.i (zgR s).2]):=by
 by_cases h66:66<s.length
 ·rw[show zgR s=(([],[]),3) from oG h66];refine so Tryz.func161 ?_;refine yd ?_;exact wkr
 ·have hs:s.length≤1000000000:=oA
  have hq:zgR s=if(cutS s 40).2.2=true/\(cutE (cutS s 40).2.1 41).2=true/\(cutS s 40).1.all bit=true/\(cutE (cutS s 40).2.1 41).1.all bit=true/\(cutE (cutS s 40).2.1 41).1.length≠0/\(cutS s 40).1.length+(cutE (cutS s 40).2.1 41).1.length≤64
    then(((cutS s 40).1,(cutE (cutS s 40).2.1 41).1),0) else(([],[]),5):=oH h66
  have c1:=zrG s 40 hs;have l1:=zuh s 40;generalize cutS s 40=a at hq c1 l1;obtain⟨fr,re,is⟩:=a;simp only at hq c1 l1;have c2:=zqm re 41 oA;have l2:=zug re 41;generalize cutE re 41=b at hq c2 l2;obtain⟨bk,cl⟩:=b;simp only at hq c2 l2;have c3:=zf2 fr oA;have c4:=zf2 bk oA;have hW:∀ {x:Int},Pure Tryz.prog 161 [.s s] (.tup [.t (zvp ([],[])),.i 5])->zgR s=(([],[]),5)->Pure Tryz.prog 161 [.s s] (.tup [.t (zvp (zgR s).1),.i (zgR s).2]):=fun h e=>by rw[e];exact h
  cases is with
  | false=>
    refine hW (x:=0) ?_ (by rw[hq,oH oC]);refine so Tryz.func161 ?_;repeat' (first|refine wk ?_|exact wkc|refine wk2 ?_ ?_|refine wv c1 ?_|refine wv c2 ?_|refine wv c3 ?_|refine wv c4 ?_|intro hc)
    all_goals exact wkr
  | true=>
    cases cl with
    | false=>
      refine hW (x:=0) ?_ (by rw[hq,oH oC]);refine so Tryz.func161 ?_;repeat' (first|refine wk ?_|exact wkc|refine wk2 ?_ ?_|refine wv c1 ?_|refine wv c2 ?_|refine wv c3 ?_|refine wv c4 ?_|intro hc)
      all_goals exact wkr
    | true=>
      cases h1:fr.all bit with
      | false=>
        rw[h1]at c3;refine hW (x:=0) ?_ (by rw[hq,oH (by simp[h1])]);refine so Tryz.func161 ?_;repeat' (first|refine wk ?_|exact wkc|refine wk2 ?_ ?_|refine wv c1 ?_|refine wv c2 ?_|refine wv c3 ?_|refine wv c4 ?_|intro hc)
        all_goals exact wkr
      | true=>
        rw[h1]at c3;cases h2:bk.all bit with
        | false=>
          rw[h2]at c4;refine hW (x:=0) ?_ (by rw[hq,oH (by simp[h2])]);refine so Tryz.func161 ?_;repeat' (first|refine wk ?_|exact wkc|refine wk2 ?_ ?_|refine wv c1 ?_|refine wv c2 ?_|refine wv c3 ?_|refine wv c4 ?_|intro hc)
          all_goals exact wkr
        | true=>
          rw[oG rfl]at c3;rw[h2,oG rfl]at c4;have c5:=zlz fr bk oA oA;by_cases e1:bk.length=0
          ·rw[oG e1]at c5;refine hW (x:=0) ?_ (by rw[hq,oH (by simp[e1])]);exact zwy
          ·rw[oH e1]at c5;by_cases e2:64<fr.length+bk.length
           ·rw[oG e2]at c5;refine hW (x:=0) ?_ (by rw[hq,oH (by rintro⟨-,-,-,-,-,h⟩;omega)]);exact zwy
           ·rw[oH e2]at c5;rw[hq,oG ⟨rfl,rfl,h1,h2,e1,oA⟩];exact zwy
theorem zxa{c:UInt8}(h:bit c=true):c≠40/\c≠41:=by
 refine⟨fun e=>?_,fun e=>?_⟩ <;> (subst e;revert h;decide)
theorem znr(p:UInt8->Bool)(l:Str):l=l.takeWhile p++l.drop (l.takeWhile p).length:=by
 conv=>lhs;rw[<-qbh (p:=p) (l:=l)]
 congr 1
 conv=>rhs;arg 2;rw[<-qbh (p:=p) (l:=l)]
 rw[qbT]
theorem zgj(p:UInt8->Bool):∀(a:Str) (c:UInt8) (b:Str),a.all p=true->p c=false->(a++c::b).takeWhile p=a
 | [],c,b,_,hc=>by simp[qbk,hc]
 | x::a,c,b,h,hc=>by
   simp only[qbH,qar]at h;simp[qbk,h.1,zgj p a c b h.2 hc]
theorem zpV(p:UInt8->Bool):∀(l:Str),(l.takeWhile p).all p=true
 | []=>rfl
 | a::l=>by
   by_cases h:p a=true
   ·simp only[qbk,h,if_true,qbH,qcq];exact zpV p l
   ·simp[qbk,h]
def wshape(s h l:Str):Prop:=s=h++40::(l++[41])/\h.all bit=true/\l.all bit=true/\l≠ []
theorem ziW{s h l:Str}(hs:¬66<s.length)(w:wshape s h l):zez s=((h,l),0):=by
 obtain⟨rfl,h1,h2,h3⟩:=w;have e1:(h++40::(l++[41])).takeWhile bit=h:=zgj bit h 40 _ h1 oB;have e2:(l++[41]).takeWhile bit=l:=zgj bit l 41 [] h2 oB;unfold zez;rw[oH hs,e1,qbT];simp only[e2,qbT];rw[oG ⟨trivial,h3⟩]
theorem ztU{s:Str}(hs:¬66<s.length):(∃h l,wshape s h l)\/zez s=(([],[]),5):=by
 unfold zez;rw[oH hs];split
 ·rename_i r hr;split
  ·rename_i h;refine .inl ⟨s.takeWhile bit,r.takeWhile bit,?_,zpV _ _,zpV _ _,h.2⟩;have e1:=znr bit s;have e2:=znr bit r;rw[hr]at e1;rw[h.1]at e2;rw[<-e2];exact e1
  ·exact .inr rfl
 ·exact .inr rfl
theorem ziX{s h l:Str}(hs:¬66<s.length)(w:wshape s h l):zgR s=((h,l),0):=by
 obtain⟨rfl,h1,h2,h3⟩:=w
 have hne:∀(a:Str),a.all bit=true->a.all (· != 40)=true:=fun a ha=>qaB.2 fun c hc=>by
  have:=(zxa (qaB.1 ha c hc)).1
  simpa using this
 have e1:(h++40::(l++[41])).takeWhile (· != 40)=h:=zgj _ h 40 _ (hne h h1) oB
 have e2:cutS (h++40::(l++[41])) 40=(h,l++[41],true):=by
  unfold cutS;rw[oG oC,e1]
  have:(h++40::(l++[41])).drop (h.length+1)=l++[41]:=by
   rw[show h++40::(l++[41])=(h++[40])++(l++[41]) from oC];exact List.drop_left' oC
  rw[this]
 have e3:cutE (l++[41]) 41=(l,true):=by
  unfold cutE endsIn;simp
 have e4:l.length≠0:=fun e=>h3 (qaF e)
 unfold zgR;simp only[oH hs,e2,e3];rw[oG];simp only[qab,qae,qal]at hs;exact⟨by trivial,by trivial,h1,h2,e4,oA⟩
theorem ztV{s:Str}(hs:¬66<s.length):(∃h l,wshape s h l)\/zgR s=(([],[]),5):=by
 unfold zgR;simp only[oH hs];split
 ·rename_i h;obtain⟨h1,h2,h3,h4,h5,h6⟩:=h;refine .inl ⟨(cutS s 40).1,(cutE (cutS s 40).2.1 41).1,?_,h3,h4,fun e=>h5 (by rw[e];rfl)⟩
  have g1:(cutE (cutS s 40).2.1 41).1++[41]=(cutS s 40).2.1:=by
   generalize (cutS s 40).2.1=r at h2⊢;unfold cutE at h2⊢;split
   ·rename_i he;unfold endsIn at he;simp only[qar,decide_eq_true_eq,beq_iff_eq]at he
    have:=qaX (r.length-1) r
    rw[he.2]at this;exact this
   ·rename_i he;rw[oH he]at h2;cases h2
  rw[g1];clear h2 h3 h4 h5 h6 g1;unfold cutS at h1⊢;split
  ·rename_i hm;have e1:=znr (· != 40) s
   have hend:∀c,s[(s.takeWhile (· != 40)).length]?=some c->c=40:=fun c hc=>by
    have:=zwS (· != 40) s c hc
    simpa using this
   cases hd:s.drop (s.takeWhile (· != 40)).length with
   | nil=>
     rw[hd,qaz]at e1;rw[e1]at hm
     have:=qaB.1 (zpV (· != 40) s) 40 hm
     simp at this
   | cons c r=>
     have hx:s[(s.takeWhile (· != 40)).length]?=some c:=by
      have:=qbb (xs:=s) (i:=(s.takeWhile (· != 40)).length) (j:=0)
      rw[hd]at this;simpa using this.symm
     have:=hend c hx
     subst this;rw[<-List.tail_drop,hd,List.tail_cons,<-hd];exact e1
  ·rename_i hm;rw[oH hm]at h1;cases h1
 ·exact .inr rfl
theorem zvo(s:Str):zgR s=zez s:=by
 by_cases hs:66<s.length
 ·unfold zgR zez;rw[oG hs];simp[hs]
 ·rcases ztU hs with ⟨h,l,w⟩|h
  ·rw[ziW hs w,ziX hs w]
  ·rcases ztV hs with ⟨h',l,w⟩|h'
   ·rw[ziW hs w,ziX hs w]
   ·rw[h,h']
theorem zml(s:Str):Pure Tryz.prog 161 [.s s] (.tup [.t (zvp (zez s).1),.i (zez s).2]):=by
 rw[<-zvo];exact zmk s
end Go.Proofs.YtdicfgideclbdaaGreatDoor
