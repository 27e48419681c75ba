import Derived.Test.YtpnnpgbaiobbjaaGreatDoorAk10
set_option linter.all false
namespace Go.Proofs.YtpnnpgbaiobbjaaGreatDoor
open Go Go.TL
attribute [local irreducible] TR TO Then zao RetK Sound zab Kf GG zaZ
def bit(c:UInt8):Bool:=decide ((c.toNat:Int)=48) || decide ((c.toNat:Int)=49)
abbrev bitT (c:UInt8):T:=.v (.bool (decide ((c.toNat:Int)=49)))
abbrev zpG (l:Str):T:=.sl 1 (l.map bitT)
theorem zt0(p:UInt8->Bool):∀(l:Str) (c:UInt8),l[(l.takeWhile p).length]?=some c->p c=false
 | [],c,h=>by simp at h
 | a::l,c,h=>by
   by_cases hp:p a=true
   ·simp only[qbj,hp,if_true,qam,qcx]at h
    exact zt0 p l c h
   ·simp only[qbj,hp]at h
    simp at h
    subst h
    simpa using hp
theorem zrW(p:UInt8->Bool):∀(l:Str),(l.takeWhile p).length≤l.length
 | []=>qag _
 | a::l=>by
   simp only[qbj]
   split
   ·have:=zrW p l;simp;omega
   ·simp
theorem zkI(h l:Str)(hs:h.length≤1000)(hl:l.length≤1000):Pure Tryz.prog 325 [.t (.ag [zpG h,zpG l])] (.i (if l.length=0 then 5 else if 64<h.length+l.length then 3 else 0)):=by
 have h1:(h.map bitT).length=h.length:=qaa _
 have h2:(l.map bitT).length=l.length:=qaa _
 refine so Tryz.func325 ?_
 repeat' (first|refine wu ?_|exact wkc|intro hc|refine wk2 ?_ ?_|fail)
 ·rw[if_pos (by omega)];exact wkr
 ·rw[if_neg (by omega),if_pos (by omega)];exact wkr
 ·rw[if_neg (by omega),if_neg (by omega)];exact wkr
theorem zfH(s:Str)(hs:s.length≤1000):Pure Tryz.prog 324 [.s s] (.tup [.t (zpG (if s.all bit then s else[])),.b (s.all bit)]):=by
 refine so Tryz.func324 ?_
 repeat' (first|refine wk ?_|exact wkc|intro hc|refine wk2 ?_ ?_|fail)
 refine TR.tail 1 4 rfl ?_
 refine TR.zal s.length (fun k=>(s.take k).all bit=true) (fun k=>[(0,.s s),(7,.i s.length),(8,.i k),(4,.sl 1 ((s.take k).map bitT) 0)]) (fun k=>[.tail ((s.take k).map bitT).length]) rfl (fun k hlt ha=>?_) (fun ha=>?_)
 ·have hx:=qac hlt
  have htk:=qaA hlt
  have hm:=qad hlt
  generalize s[k]=c at hx htk hm
  have hmk:((s.take k).map bitT).length≤1000:=by simp;omega
  repeat' (first|refine wk ?_|exact wkc|intro hc|refine wk2 ?_ ?_|fail)
  all_goals first
   | (refine zab.zat hlt (by rw[htk,qbI,ha];simp[bit];omega) ?_ ?_
      ·rw[htk,qal]
       simp only[qaj,qay,bitT, *]
       exact⟨rfl,rfl,rfl,rfl,trivial⟩
      ·rw[htk,qal,qae];rfl)
   | (have h0:s.all bit=false:=qbZ.2 ⟨c,hm,by simp[bit];omega⟩
      rw[h0]
      simp only[Bool.false_eq_true,if_false,qay]
      exact wkr)
   | (exfalso;simp_all;done)
 ·rw[qah]at ha⊢
  exact zwef
def zgZ(s:Str):(Str×Str)×Int:=
 if 66<s.length then(([],[]),3) else
 match s.drop (s.takeWhile bit).length with
 | 40::r=>if r.drop (r.takeWhile bit).length=[41]/\r.takeWhile bit≠ [] then((s.takeWhile bit,r.takeWhile bit),0) else(([],[]),5)
 | _=>(([],[]),5)
abbrev zto (w:Str×Str):T:=.ag [zpG w.1,zpG w.2]
def cutS(s:Str)(c:UInt8):Str×Str×Bool:=
 if c∈s then(s.takeWhile (· != c),s.drop ((s.takeWhile (· != c)).length+1),true) else(s,[],false)
theorem zfF(c:UInt8):∀(s:Str),Lib.indexByte s c=if c∈s then((s.takeWhile (· != c)).length:Int) else -1
 | []=>by simp[Lib.indexByte]
 | b::l=>by
   have ih:=zfF c l
   unfold Lib.indexByte
   by_cases hb:b=c
   ·subst hb;simp
   ·have h1:(b == c)=false:=by simpa using hb
    have h2:(b != c)=true:=by simpa using hb
    rw[ih]
    by_cases hm:c∈l
    ·have:((l.takeWhile (· != c)).length:Int)≠ -1:=by omega
     simp[h1,h2,hm,this,qbj]
    ·have hc:¬c=b:=fun e=>hb e.symm
     simp[h1,hm,hc]
theorem zgU(s:Str)(c:UInt8):Pure Tryz.prog 339 [.s s,.t (.v (.int .u8 c.toNat))] (.i (Lib.indexByte s c)):=by
 refine so Tryz.func339 ?_
 repeat' (first|refine wk ?_|exact wkc|intro hc|refine wk2 ?_ ?_|(apply TO.zgT;exact rfl;exact Tryz.func343;kernel_rfl;kernel_rfl;kernel_rfl;kernel_rfl;exact rfl;exact rfl)|fail)
 refine RetK.pure rfl (Le.of_eq ?_) rfl
 simp[pack]
theorem zmG(s:Str)(c:UInt8):Pure Tryz.prog 337 [.s s,.s [c]] (.i (Lib.indexByte s c)):=by
 refine so Tryz.func337 ?_
 repeat' (first|refine wk ?_|exact wkc|intro hc|refine wk2 ?_ ?_|refine wv (zgU s c) ?_|fail)
 ·subst hc
  rw[show Lib.indexByte [c] c=0 from by simp[Lib.indexByte]]
  exact wkr
 ·exact wkr
theorem zoS(s:Str)(c:UInt8)(hs:s.length≤1000000000):Pure Tryz.prog 333 [.s s,.s [c]] (.tup [.s (cutS s c).1,.s (cutS s c).2.1,.b (cutS s c).2.2]):=by
 have hi:=zmG s c
 rw[zfF]at hi
 by_cases hm:c∈s
 ·rw[if_pos hm]at hi
  have hle:=zrW (· != c) s
  have hlt:(s.takeWhile (· != c)).length<s.length:=by
   refine Nat.lt_of_le_of_ne hle fun e=>?_
   have:∀l:Str,(l.takeWhile (· != c)).length=l.length->c ∉ l:=by
    intro l
    induction l with
    | nil=>simp
    | cons a l ih=>
      intro h
      by_cases ha:(a != c)=true
      ·simp only[qbj,ha,if_true,qam]at h
       have:=ih (by omega)
       simp at ha
       simp[this];exact fun e=>ha e.symm
      ·simp[qbj,ha]at h
   exact this s e hm
  have htk:s.takeWhile (· != c)=s.take (s.takeWhile (· != c)).length:=by
   conv=>rhs;arg 2;rw[<-qbK (p:=(· != c)) (l:=s)]
   rw[qcM]
  simp only[cutS,hm,if_true]
  rw[htk]
  have hlen:(s.take (s.takeWhile (· != c)).length).length=(s.takeWhile (· != c)).length:=by rw[<-htk]
  rw[hlen]
  generalize (s.takeWhile (· != c)).length=k at hi hlt hle⊢
  clear htk hlen
  refine so Tryz.func333 ?_
  repeat' (first|refine wk ?_|exact wkc|intro hc|refine wk2 ?_ ?_|refine wv hi ?_|(apply TO.zfS (a:=k+1) zag;(iterate 5 exact rfl);omega)|fail)
  exact wkr
 ·rw[if_neg hm]at hi
  simp only[cutS,hm,if_false]
  refine so Tryz.func333 ?_
  repeat' (first|refine wk ?_|exact wkc|intro hc|refine wk2 ?_ ?_|refine wv hi ?_|fail)
  exact wkr
theorem zp0(s:Str)(c:UInt8)(hs:s.length≤1000000000):Pure Tryz.prog 322 [.s s,.s [c]] (.tup [.s (cutS s c).1,.s (cutS s c).2.1,.b (cutS s c).2.2]):=by
 refine so Tryz.func322 ?_
 repeat' (first|refine wk ?_|exact wkc|intro hc|refine wk2 ?_ ?_|refine wv (zoS s c hs) ?_|fail)
 exact wkr
def endsIn(s:Str)(c:UInt8):Bool:=decide (1≤s.length) && s.drop (s.length-1) == [c]
theorem zk8(s:Str)(c:UInt8)(hs:s.length≤1000000000):Pure Tryz.prog 338 [.s s,.s [c]] (.b (endsIn s c)):=by
 by_cases h1:1≤s.length
 ·obtain⟨k,hk⟩:∃k,s.length=k+1:=⟨s.length-1,by omega⟩
  have hkk:s.length-1=k:=by omega
  have hki:(s.length:Int)-(([c]:Str).length:Int)=(k:Int):=by simp;omega
  refine so Tryz.func338 ?_
  repeat' (first|refine wk ?_|exact wkc|intro hc|refine wk2 ?_ ?_|(apply TO.zfS (a:=k) zag;(iterate 4 exact rfl);exact congrArg (fun z=>some (SV.i z)) hki;omega)|fail)
  all_goals
   refine RetK.pure rfl (Le.of_eq ?_) rfl
   simp only[pack,endsIn,hkk,h1,decide_true,qcO,SV.t.injEq,T.v.injEq,Value.bool.injEq]
   simp[hc]
 ·refine so Tryz.func338 ?_
  repeat' (first|refine wk ?_|exact wkc|intro hc|refine wk2 ?_ ?_|fail)
  all_goals first
   | (exfalso;simp at hc;omega)
   | (refine RetK.pure rfl (Le.of_eq ?_) rfl
      simp[pack,endsIn,h1])
def cutE(s:Str)(c:UInt8):Str×Bool:=if endsIn s c then(s.take (s.length-1),true) else(s,false)
theorem zmk(s:Str)(c:UInt8)(hs:s.length≤1000000000):Pure Tryz.prog 334 [.s s,.s [c]] (.tup [.s (cutE s c).1,.b (cutE s c).2]):=by
 have hf:=zk8 s c hs
 cases he:endsIn s c with
 | true=>
   rw[he]at hf
   have h1:1≤s.length:=by simp[endsIn]at he;omega
   obtain⟨k,hk⟩:∃k,s.length=k+1:=⟨s.length-1,by omega⟩
   have hkk:s.length-1=k:=by omega
   have hki:(s.length:Int)-(([c]:Str).length:Int)=(k:Int):=by simp;omega
   simp only[cutE,he,if_true,hkk]
   refine so Tryz.func334 ?_
   repeat' (first|refine wk ?_|exact wkc|intro hc|refine wk2 ?_ ?_|refine wv hf ?_|(apply TO.zeM (b:=k) zag;(iterate 4 exact rfl);exact congrArg (fun z=>some (SV.i z)) hki;omega)|fail)
   exact wkr
 | false=>
   rw[he]at hf
   simp only[cutE,he]
   refine so Tryz.func334 ?_
   repeat' (first|refine wk ?_|exact wkc|intro hc|refine wk2 ?_ ?_|refine wv hf ?_|fail)
   exact wkr
theorem zoT(s:Str)(c:UInt8)(hs:s.length≤1000000000):Pure Tryz.prog 323 [.s s,.s [c]] (.tup [.s (cutE s c).1,.b (cutE s c).2]):=by
 refine so Tryz.func323 ?_
 repeat' (first|refine wk ?_|exact wkc|intro hc|refine wk2 ?_ ?_|refine wv (zmk s c hs) ?_|fail)
 exact wkr
theorem zsx(s:Str)(c:UInt8):(cutS s c).1.length≤s.length/\(cutS s c).2.1.length≤s.length:=by
 unfold cutS
 split
 ·exact⟨zrW _ _,by simp⟩
 ·simp
theorem zsw(s:Str)(c:UInt8):(cutE s c).1.length≤s.length:=by
 unfold cutE;split <;> simp
def zgo(s:Str):(Str×Str)×Int:=
 let a:=cutS s 40
 let b:=cutE a.2.1 41
 if 66<s.length then(([],[]),3)
 else if a.2.2=true/\b.2=true/\a.1.all bit=true/\b.1.all bit=true/\b.1.length≠0/\a.1.length+b.1.length≤64 then((a.1,b.1),0) else(([],[]),5)
theorem zlv(s:Str):Pure Tryz.prog 302 [.s s] (.tup [.t (zto (zgo s).1),.i (zgo s).2]):=by
 by_cases h66:66<s.length
 ·rw[show zgo s=(([],[]),3) from if_pos h66]
  refine so Tryz.func302 ?_
  repeat' (first|refine wk ?_|exact wkc|intro hc|refine wk2 ?_ ?_|fail)
  exact wkr
 ·have hs:s.length≤1000000000:=by omega
  have hq:zgo s=if(cutS s 40).2.2=true/\(cutE (cutS s 40).2.1 41).2=true/\(cutS s 40).1.all bit=true/\(cutE (cutS s 40).2.1 41).1.all bit=true/\(cutE (cutS s 40).2.1 41).1.length≠0/\(cutS s 40).1.length+(cutE (cutS s 40).2.1 41).1.length≤64
    then(((cutS s 40).1,(cutE (cutS s 40).2.1 41).1),0) else(([],[]),5):=if_neg h66
  have c1:=zp0 s 40 hs
  have l1:=zsx s 40
  generalize cutS s 40=a at hq c1 l1
  obtain⟨fr,re,is⟩:=a
  simp only at hq c1 l1
  have c2:=zoT re 41 (by omega)
  have l2:=zsw re 41
  generalize cutE re 41=b at hq c2 l2
  obtain⟨bk,cl⟩:=b
  simp only at hq c2 l2
  have c3:=zfH fr (by omega)
  have c4:=zfH bk (by omega)
  have hW:∀ {x:Int},Pure Tryz.prog 302 [.s s] (.tup [.t (zto ([],[])),.i 5])->zgo s=(([],[]),5)->Pure Tryz.prog 302 [.s s] (.tup [.t (zto (zgo s).1),.i (zgo s).2]):=fun h e=>by rw[e];exact h
  cases is with
  | false=>
    refine hW (x:=0) ?_ (by rw[hq,if_neg (by simp)])
    refine so Tryz.func302 ?_
    repeat' (first|refine wk ?_|exact wkc|intro hc|refine wk2 ?_ ?_|refine wv c1 ?_|refine wv c2 ?_|refine wv c3 ?_|refine wv c4 ?_|fail)
    all_goals exact wkr
  | true=>
    cases cl with
    | false=>
      refine hW (x:=0) ?_ (by rw[hq,if_neg (by simp)])
      refine so Tryz.func302 ?_
      repeat' (first|refine wk ?_|exact wkc|intro hc|refine wk2 ?_ ?_|refine wv c1 ?_|refine wv c2 ?_|refine wv c3 ?_|refine wv c4 ?_|fail)
      all_goals exact wkr
    | true=>
      cases h1:fr.all bit with
      | false=>
        rw[h1]at c3
        refine hW (x:=0) ?_ (by rw[hq,if_neg (by simp[h1])])
        refine so Tryz.func302 ?_
        repeat' (first|refine wk ?_|exact wkc|intro hc|refine wk2 ?_ ?_|refine wv c1 ?_|refine wv c2 ?_|refine wv c3 ?_|refine wv c4 ?_|fail)
        all_goals exact wkr
      | true=>
        rw[h1]at c3
        cases h2:bk.all bit with
        | false=>
          rw[h2]at c4
          refine hW (x:=0) ?_ (by rw[hq,if_neg (by simp[h2])])
          refine so Tryz.func302 ?_
          repeat' (first|refine wk ?_|exact wkc|intro hc|refine wk2 ?_ ?_|refine wv c1 ?_|refine wv c2 ?_|refine wv c3 ?_|refine wv c4 ?_|fail)
          all_goals exact wkr
        | true=>
          rw[if_pos rfl]at c3
          rw[h2,if_pos rfl]at c4
          have c5:=zkI fr bk (by omega) (by omega)
          by_cases e1:bk.length=0
          ·rw[if_pos e1]at c5
           refine hW (x:=0) ?_ (by rw[hq,if_neg (by simp[e1])])
           exact zwbo
          ·rw[if_neg e1]at c5
           by_cases e2:64<fr.length+bk.length
           ·rw[if_pos e2]at c5
            refine hW (x:=0) ?_ (by rw[hq,if_neg (by rintro⟨-,-,-,-,-,h⟩;omega)])
            exact zwbo
           ·rw[if_neg e2]at c5
            rw[hq,if_pos ⟨rfl,rfl,h1,h2,e1,by omega⟩]
            exact zwbo
theorem zui{c:UInt8}(h:bit c=true):c≠40/\c≠41:=by
 refine⟨fun e=>?_,fun e=>?_⟩ <;> (subst e;revert h;decide)
theorem zmq(p:UInt8->Bool)(l:Str):l=l.takeWhile p++l.drop (l.takeWhile p).length:=by
 conv=>lhs;rw[<-qbK (p:=p) (l:=l)]
 congr 1
 conv=>rhs;arg 2;rw[<-qbK (p:=p) (l:=l)]
 rw[qcK]
theorem zfX(p:UInt8->Bool):∀(a:Str) (c:UInt8) (b:Str),a.all p=true->p c=false->(a++c::b).takeWhile p=a
 | [],c,b,_,hc=>by simp[qbj,hc]
 | x::a,c,b,h,hc=>by
   simp only[qbG,qaz]at h
   simp[qbj,h.1,zfX p a c b h.2 hc]
theorem zot(p:UInt8->Bool):∀(l:Str),(l.takeWhile p).all p=true
 | []=>rfl
 | a::l=>by
   by_cases h:p a=true
   ·simp only[qbj,h,if_true,qbG,qcO];exact zot p l
   ·simp[qbj,h]
def wshape(s h l:Str):Prop:=s=h++40::(l++[41])/\h.all bit=true/\l.all bit=true/\l≠ []
theorem ziu{s h l:Str}(hs:¬66<s.length)(w:wshape s h l):zgZ s=((h,l),0):=by
 obtain⟨rfl,h1,h2,h3⟩:=w
 have e1:(h++40::(l++[41])).takeWhile bit=h:=zfX bit h 40 _ h1 (by decide)
 have e2:(l++[41]).takeWhile bit=l:=zfX bit l 41 [] h2 (by decide)
 unfold zgZ
 rw[if_neg hs,e1,qcK]
 simp only[e2,qcK]
 rw[if_pos ⟨trivial,h3⟩]
theorem zsa{s:Str}(hs:¬66<s.length):(∃h l,wshape s h l)\/zgZ s=(([],[]),5):=by
 unfold zgZ
 rw[if_neg hs]
 split
 ·rename_i r hr
  split
  ·rename_i h
   refine .inl ⟨s.takeWhile bit,r.takeWhile bit,?_,zot _ _,zot _ _,h.2⟩
   have e1:=zmq bit s
   have e2:=zmq bit r
   rw[hr]at e1
   rw[h.1]at e2
   rw[<-e2];exact e1
  ·exact .inr rfl
 ·exact .inr rfl
theorem ziv{s h l:Str}(hs:¬66<s.length)(w:wshape s h l):zgo s=((h,l),0):=by
 obtain⟨rfl,h1,h2,h3⟩:=w
 have hne:∀(a:Str),a.all bit=true->a.all (· != 40)=true:=fun a ha=>qaB.2 fun c hc=>by
  have:=(zui (qaB.1 ha c hc)).1
  simpa using this
 have e1:(h++40::(l++[41])).takeWhile (· != 40)=h:=zfX _ h 40 _ (hne h h1) (by decide)
 have e2:cutS (h++40::(l++[41])) 40=(h,l++[41],true):=by
  unfold cutS
  rw[if_pos (by simp),e1]
  have:(h++40::(l++[41])).drop (h.length+1)=l++[41]:=by
   rw[show h++40::(l++[41])=(h++[40])++(l++[41]) from by simp]
   exact List.drop_left' (by simp)
  rw[this]
 have e3:cutE (l++[41]) 41=(l,true):=by
  unfold cutE endsIn
  simp
 have e4:l.length≠0:=fun e=>h3 (qaP e)
 unfold zgo
 simp only[if_neg hs,e2,e3]
 rw[if_pos]
 simp only[qae,qam,qaD]at hs
 exact⟨by trivial,by trivial,h1,h2,e4,by omega⟩
theorem zsb{s:Str}(hs:¬66<s.length):(∃h l,wshape s h l)\/zgo s=(([],[]),5):=by
 unfold zgo
 simp only[if_neg hs]
 split
 ·rename_i h
  obtain⟨h1,h2,h3,h4,h5,h6⟩:=h
  refine .inl ⟨(cutS s 40).1,(cutE (cutS s 40).2.1 41).1,?_,h3,h4,fun e=>h5 (by rw[e];rfl)⟩
  have g1:(cutE (cutS s 40).2.1 41).1++[41]=(cutS s 40).2.1:=by
   generalize (cutS s 40).2.1=r at h2⊢
   unfold cutE at h2⊢
   split
   ·rename_i he
    unfold endsIn at he
    simp only[qaz,decide_eq_true_eq,beq_iff_eq]at he
    have:=qaS (r.length-1) r
    rw[he.2]at this
    exact this
   ·rename_i he;rw[if_neg he]at h2;cases h2
  rw[g1]
  clear h2 h3 h4 h5 h6 g1
  unfold cutS at h1⊢
  split
  ·rename_i hm
   have e1:=zmq (· != 40) s
   have hend:∀c,s[(s.takeWhile (· != 40)).length]?=some c->c=40:=fun c hc=>by
    have:=zt0 (· != 40) s c hc
    simpa using this
   cases hd:s.drop (s.takeWhile (· != 40)).length with
   | nil=>
     rw[hd,qaQ]at e1
     rw[e1]at hm
     have:=qaB.1 (zot (· != 40) s) 40 hm
     simp at this
   | cons c r=>
     have hx:s[(s.takeWhile (· != 40)).length]?=some c:=by
      have:=qbb (xs:=s) (i:=(s.takeWhile (· != 40)).length) (j:=0)
      rw[hd]at this
      simpa using this.symm
     have:=hend c hx
     subst this
     rw[<-List.tail_drop,hd,List.tail_cons,<-hd]
     exact e1
  ·rename_i hm;rw[if_neg hm]at h1;cases h1
 ·exact .inr rfl
theorem ztn(s:Str):zgo s=zgZ s:=by
 by_cases hs:66<s.length
 ·unfold zgo zgZ;rw[if_pos hs];simp[hs]
 ·rcases zsa hs with ⟨h,l,w⟩|h
  ·rw[ziu hs w,ziv hs w]
  ·rcases zsb hs with ⟨h',l,w⟩|h'
   ·rw[ziu hs w,ziv hs w]
   ·rw[h,h']
theorem zlw(s:Str):Pure Tryz.prog 302 [.s s] (.tup [.t (zto (zgZ s).1),.i (zgZ s).2]):=by
 rw[<-ztn];exact zlv s
def letter(c:Int):Bool:=(decide (97≤c) && decide (c≤122)) || (decide (65≤c) && decide (c≤90))
def digit(c:Int):Bool:=decide (48≤c) && decide (c≤57)
def inner(c:Int):Bool:=letter c || digit c || c == 95
abbrev u8 (c:Int):SV:=.t (.v (.int .u8 c))
theorem zeu(c:Int):Pure Tryz.prog 252 [u8 c] (.b (letter c)):=by
 refine so Tryz.func252 ?_
 repeat' (first|refine wk ?_|exact wkc|intro hc|refine wk2 ?_ ?_|fail)
 all_goals try(refine RetK.pure rfl ?_ rfl;exact Le.of_eq (by simp_all [pack,letter] <;> omega))
theorem zmp(c:Int):Pure Tryz.prog 300 [u8 c] (.b (digit c)):=by
 refine so Tryz.func300 ?_
 repeat' (first|refine wk ?_|exact wkc|intro hc|refine wk2 ?_ ?_|fail)
 all_goals try(refine RetK.pure rfl ?_ rfl;exact Le.of_eq (by simp_all [pack,digit] <;> omega))
theorem zmH(c:Int):Pure Tryz.prog 254 [u8 c] (.b (inner c)):=by
 refine so Tryz.func254 ?_
 repeat' (first|refine wk ?_|exact wkc|intro hc|refine wk2 ?_ ?_|refine wb (zeu _) ?_ ?_|refine wb (zmp _) ?_ ?_|fail)
 all_goals try(refine RetK.pure rfl ?_ rfl;exact Le.of_eq (by simp_all [pack,inner] <;> omega))
def kws:List Str:=[
 [97,115,115,117,109,101],[97,110,100],[97,117,116,111,109,97,116,111,110],[98,111,111,108],[99,111,110,116,105,110,117,101],[100,111],[100,111,110,101],[101,108,115,101],[101,110,100],[101,110,115,117,114,101],[101,118,101,114,121],[102,97,108,115,101],[102,98,121],[105,102],[105,110,116],[108,101,116],[109,101,114,103,101],[109,111,100],[110,111,100,101],[110,111,116],[111,114],[112,114,101],[114,101,116,117,114,110,115],[115,116,97,116,101],[116,101,108],[116,104,101,110],[116,114,117,101],[116,121,112,101],[117,110,108,101,115,115],[117,110,116,105,108],[118,97,114],[119,104,101,110],[120,111,114]]
def keyword(s:Str):Bool:=kws.any fun w=>s == w
set_option maxHeartbeats 4000000 in
theorem zfG (s:Str):Pure Tryz.prog 253 [.s s] (.b (keyword s)):=by
 refine so Tryz.func253 ?_
 repeat' (first|refine wk ?_|exact wkc|intro hc|refine wk2 ?_ ?_|fail)
 all_goals refine RetK.pure rfl ?_ rfl
 all_goals exact Le.of_eq (by simp[keyword,kws,pack, *])
def zjh(c:UInt8):Bool:=inner c.toNat
def zmM(c:UInt8):Bool:=letter c.toNat
def ident(s:Str):Bool:=
 match s with
 | []=>false
 | c::r=>decide (r.length+1≤40) && zmM c && !keyword (c::r) && (c::r).all zjh
theorem zhO(s:Str):Pure Tryz.prog 201 [.s s] (.b (ident s)):=by
 refine so Tryz.func201 ?_
 cases s with
 | nil=>
   repeat' (first|refine wk ?_|exact wkc|intro hc|refine wk2 ?_ ?_|refine wb (zeu _) ?_ ?_|refine wb (zfG _) ?_ ?_|fail)
   all_goals try(refine RetK.pure rfl ?_ rfl;exact Le.of_eq (by simp_all [pack,ident] <;> omega))
 | cons c r=>
   repeat' (first|refine wk ?_|exact wkc|intro hc|refine wk2 ?_ ?_|refine wb (zeu _) ?_ ?_|refine wb (zfG _) ?_ ?_|fail)
   all_goals try(refine RetK.pure rfl ?_ rfl;exact Le.of_eq (by simp_all [pack,ident,zmM] <;> omega))
   refine TR.zal (c::r).length (fun k=>((c::r).take k).all zjh=true) (fun k=>[(0,.s (c::r)),(22,.i (c::r).length),(23,.i k)]) (fun _=>[]) rfl (fun k hlt ha=>?_) (fun ha=>?_)
   ·have hx:=qac hlt
    repeat' (first|refine wk ?_|exact wkc|intro hc|refine wk2 ?_ ?_|refine wb (zmH _) ?_ ?_|fail)
    ·refine zab.zat hlt ?_
     rw[qaA hlt,qbI,ha]
     simpa [zjh]using hc
    ·refine RetK.pure rfl (Le.of_eq ?_) rfl
     have:(c::r).all zjh=false:=by
      rw[qbZ]
      exact⟨_,qad hlt,by simpa [zjh]using hc⟩
     simp only[pack,ident,this]
     simp
   ·repeat' (first|refine wk ?_|exact wkc|intro hc|refine wk2 ?_ ?_|fail)
    rw[qah]at ha
    refine RetK.pure rfl (Le.of_eq ?_) rfl
    simp_all [pack,ident,zmM]
    omega
def inW(v:Int):Bool:=decide (-32768≤v) && decide (v≤32767)
theorem zsN(v:Int):Pure Tryz.prog 256 [.i v] (.b (inW v)):=by
 refine so Tryz.func256 ?_
 repeat' (first|refine wk ?_|exact wkc|intro hc|refine wk2 ?_ ?_|fail)
 all_goals try(refine RetK.pure rfl ?_ rfl;exact Le.of_eq (by simp_all [pack,inW] <;> omega))
abbrev ensT (es:List En):T:=.sl 2 (es.map enT)
def zkY(es:List En)(t:Int):En×Bool:=
 if 3≤t/\t-3<es.length then(match es[(t-3).toNat]? with|some e=>(e,true)|none=>(⟨[],[]⟩,false)) else(⟨[],[]⟩,false)
def zcY(es:List En)(t:Int):Int:=
 if t=1 then 2 else if t=2 then 65536 else((zkY es t).1.tags.length:Int)
def hasT(es:List En)(t v:Int):Bool:=if t=2 then inW v else decide (0≤v) && decide (v<zcY es t)
theorem zoW(es:List En)(t:I64):Pure Tryz.prog 255 [.t (ensT es),.n t] (.tup [.t (enT (zkY es t.1).1),.b (zkY es t.1).2]):=by
 obtain⟨t,ht1,ht2⟩:=t
 dsimp only[SV.n]
 refine so Tryz.func255 ?_
 have hl:(es.map enT).length=es.length:=qaa _
 by_cases h:3≤t/\t-3<es.length
 ·obtain⟨h1,h2⟩:=h
  have hlt:(t-3).toNat<es.length:=by omega
  have hx:=zar enT hlt
  repeat' (first|refine wk ?_|exact wkc|intro hc|refine wk2 ?_ ?_|fail)
  simp only[zkY,h1,h2,hlt,enT,and_self,if_true,qac]
  exact wkr
 ·repeat' (first|refine wk ?_|exact wkc|intro hc|refine wk2 ?_ ?_|fail)
  all_goals
   simp only[zkY,h,enT,if_false]
   exact wkr
theorem zgh(es:List En)(t:I64):Pure Tryz.prog 202 [.t (ensT es),.n t] (.i (zcY es t.1)):=by
 refine so Tryz.func202 ?_
 repeat' (first|refine wk ?_|exact wkc|intro hc|refine wk2 ?_ ?_|refine wv (zoW es t) ?_|fail)
 ·refine RetK.pure rfl (Le.of_eq ?_) rfl
  simp[pack,zcY,hc]
 ·refine RetK.pure rfl (Le.of_eq ?_) rfl
  simp[pack,zcY,hc]
 ·refine RetK.pure rfl (Le.of_eq ?_) rfl
  simp[pack,zcY, *]
theorem zk9(es:List En)(t v:I64):Pure Tryz.prog 203 [.t (ensT es),.n t,.n v] (.b (hasT es t.1 v.1)):=by
 refine so Tryz.func203 ?_
 repeat' (first|refine wk ?_|exact wkc|intro hc|refine wk2 ?_ ?_|refine wv (zsN v.1) ?_|refine wv (zgh es t) ?_|fail)
 all_goals
  refine RetK.pure rfl (Le.of_eq ?_) rfl
  simp_all [pack,hasT] <;> omega
def zdd(o:Int):Int:=
 if o=1\/o=3\/o=4\/o=5 then 1 else if o=2\/6≤o/\o≤10 then 2 else if o=11\/o=12 then 3 else if 13≤o/\o≤16 then 4 else 0
def opN(o:Int):Int:=if o=1\/o=2 then 1 else if 3≤o/\o≤16 then 2 else 0
theorem zgH(o:Int):(zdd o=0/\(o<1\/16<o))\/(zdd o=1/\(o=1\/o=3\/o=4\/o=5))\/(zdd o=2/\(o=2\/6≤o/\o≤10))\/(zdd o=3/\(o=11\/o=12))\/(zdd o=4/\13≤o/\o≤16):=by
 unfold zdd;repeat' split
 all_goals omega
theorem zlu(o:Int):(opN o=1/\(o=1\/o=2))\/(opN o=2/\3≤o/\o≤16)\/(opN o=0/\(o<1\/16<o)):=by
 unfold opN;repeat' split
 all_goals omega
theorem zmD(o:Int):Pure Tryz.prog 244 [.i o] (.tup [.i (zdd o),.i (opN o)]):=by
 have h1:=zgH o
 have h2:=zlu o
 generalize zdd o=a at h1⊢
 generalize opN o=b at h2⊢
 refine so Tryz.func244 ?_
 repeat' (first|refine wk ?_|exact wkc|intro hc|refine wk2 ?_ ?_|fail)
 all_goals
  refine RetK.pure rfl (Le.of_eq ?_) rfl
  simp only[pack,SV.tup.injEq,qba,SV.t.injEq,T.v.injEq,Value.int.injEq,true_and,and_true]
  omega
abbrev zeS (l:List Int):T:=.sl 1 (l.map T.i)
def okTy(k t0 t:Int):Bool:=if k=1 then decide (t=1) else if k=3 then decide (t=t0) && decide (1≤t) else decide (t=2)
def zbu(o:Int)(ts:List Int):Int×Int:=
 if zdd o=0 then(0,2) else if(ts.length:Int)≠opN o then(0,9) else if ts.all (okTy (zdd o) (ts.headD 0)) then(if zdd o=2 then 2 else 1,0) else(0,10)
theorem zjE{l:List Int}{k:Nat}(h:k<l.length):(l.map T.i)[k]?=some (T.i l[k]):=by simp[h]
theorem zlC(o:Int)(ts:List Int):Pure Tryz.prog 166 [.i o,.t (zeS ts)] (.tup [.i (zbu o ts).1,.i (zbu o ts).2]):=by
 refine so Tryz.func166 ?_
 have hl:(ts.map T.i).length=ts.length:=qaa _
 have hk:=zgH o
 have hn:=zlu o
 repeat' (first|refine wk ?_|exact wkc|intro hc|refine wk2 ?_ ?_|refine wv (zmD o) ?_|fail)
 ·rw[show zbu o ts=(0,2) from if_pos hc];exact wkr
 ·rename_i h0
  rw[show zbu o ts=(0,9) from by simp only[zbu,if_neg h0];exact if_pos (by omega)];exact wkr
 ·rename_i h0
  have hlen:(ts.length:Int)=opN o:=by omega
  have hr:zbu o ts=if ts.all (okTy (zdd o) (ts.headD 0)) then(if zdd o=2 then 2 else 1,0) else(0,10):=by
   simp only[zbu,if_neg h0];exact if_neg (by omega)
  rw[hr]
  clear hr
  have hx0:(ts.map T.i)[(0:Int).toNat]?=some (T.i (ts.headD 0)):=by
   cases ts with
   | nil=>simp at hlen;omega
   | cons a l=>rfl
  generalize ts.headD 0=t0 at hx0⊢
  generalize zdd o=k at h0 hk⊢
  refine TR.zal ts.length (fun j=>(ts.take j).all (okTy k t0)=true) (fun j=>[(1,.t (zeS ts)),(6,.i k),(23,.t (zeS ts)),(24,.i ts.length),(25,.i j)]) (fun _=>[]) rfl (fun j hlt ha=>?_) (fun ha=>?_) ⟨rfl,rfl,rfl,by rw[<-hl];rfl,rfl,trivial⟩
  ·have hx:=zjE hlt
   have htk:=qaA hlt
   have hm:=qad hlt
   generalize ts[j]=t at hx htk hm
   repeat' (first|refine wk ?_|exact wkc|intro hc|refine wk2 ?_ ?_|fail)
   all_goals first
    | (refine zab.zat hlt ?_;rw[htk,qbI,ha];simp_all [okTy];done)
    | (refine zab.zat hlt ?_;rw[htk,qbI,ha];simp_all [okTy];omega)
    | (have:ts.all (okTy k t0)=false:=qbZ.2 ⟨t,hm,by simp_all [okTy]⟩
       simp only[this];exact wkr)
    | (have:ts.all (okTy k t0)=false:=qbZ.2 ⟨t,hm,by simp_all [okTy];omega⟩
       simp only[this];exact wkr)
  ·rw[qah]at ha
   rw[ha]
   repeat' (first|refine wk ?_|exact wkc|intro hc|refine wk2 ?_ ?_|fail)
   ·simp only[hc,if_true];exact wkr
   ·simp only[hc,if_true,if_false];exact wkr
def tagI(t v:Int):Bool:=(decide (t=1) && (decide (v=0) || decide (v=1))) || (decide (3≤t) && decide (0≤v) && decide (v<16))
def zpI(t n:Int):Bool:=(decide (t=1) && decide (n=2)) || (decide (3≤t) && decide (1≤n) && decide (n≤16))
def opdI(o:Int):Int:=if o=1\/o=2 then 1 else 2
theorem zrR(t v:Int):Pure Tryz.prog 319 [.i t,.i v] (.b (tagI t v)):=by
 refine so Tryz.func319 ?_
 repeat' (first|refine wk ?_|exact wkc|intro hc|refine wk2 ?_ ?_|fail)
 all_goals try(refine RetK.pure rfl ?_ rfl;exact Le.of_eq (by simp_all [pack,tagI] <;> omega))
theorem ziy(t n:Int):Pure Tryz.prog 321 [.i t,.i n] (.b (zpI t n)):=by
 refine so Tryz.func321 ?_
 repeat' (first|refine wk ?_|exact wkc|intro hc|refine wk2 ?_ ?_|fail)
 all_goals try(refine RetK.pure rfl ?_ rfl;exact Le.of_eq (by simp_all [pack,zpI] <;> omega))
theorem zpg(o:Int):Pure Tryz.prog 320 [.i o] (.i (opdI o)):=by
 refine so Tryz.func320 ?_
 repeat' (first|refine wk ?_|exact wkc|intro hc|refine wk2 ?_ ?_|fail)
 all_goals try(refine RetK.pure rfl ?_ rfl;exact Le.of_eq (by simp_all [pack,opdI] <;> omega))
structure Form where
 args:Bool
 op:Bool
 typed:Bool
 name:Bool
 word:Bool
abbrev zuC (f:Form):T:=.ag [.b f.args,.b f.op,.b f.typed,.b f.name,.b f.word]
def ofF(k o t v n:Int):Form:=
 if k=1 then⟨decide (n=0),false,(decide (t=2) && decide (-32768≤v) && decide (v≤32767)) || (!decide (t=2) && tagI t v),false,false⟩
 else if k=2 then⟨decide (n=0),false,decide (t=0) && decide (v=0),true,false⟩
 else if k=3 then⟨decide (n=opdI o),true,decide (t=0) && decide (v=0),false,false⟩
 else if k=4 then⟨decide (n=3),false,decide (t=0) && decide (v=0),false,false⟩
 else if k=5 then⟨decide (n=1),false,decide (t=0) && decide (v=0),false,false⟩
 else if k=6\/k=7 then⟨decide (n=2),false,decide (t=0) && decide (v=0),false,false⟩
 else if k=8 then⟨decide (n=1),false,!decide (t=2) && tagI t v,true,false⟩
 else if k=9 then⟨!decide (t=2) && zpI t n,false,decide (v=0),true,false⟩
 else if k=10 then⟨decide (v≤n),false,decide (t=0) && (decide (v=0) || decide (v=1)),true,false⟩
 else if k=11 then⟨decide (n=0),false,decide (t=0) && decide (v=0),false,true⟩
 else⟨false,false,false,false,false⟩
set_option maxHeartbeats 2000000 in
theorem zs2 (k o t v:Int) (nm:Str) (l:List T):Pure Tryz.prog 301 [.t (.ag [.i k,.i o,.i t,.i v,.s nm,.sl 6 l])] (.t (zuC (ofF k o t v l.length))):=by
 have ht:=zrR t v
 have hb:=ziy t l.length
 have ho:=zpg o
 have hk:k=1\/k=2\/k=3\/k=4\/k=5\/k=6\/k=7\/k=8\/k=9\/k=10\/k=11\/(k<1\/11<k):=by omega
 rcases hk with rfl|rfl|rfl|rfl|rfl|rfl|rfl|rfl|rfl|rfl|rfl|hk
 all_goals
  first|rw[show ofF k o t v l.length=⟨false,false,false,false,false⟩ from by unfold ofF;repeat' (first|rw[if_neg (by omega)]|fail)]|simp only[ofF,Int.reduceEq,if_false,if_true,or_self,or_true,true_or,or_false,false_or]
  refine so Tryz.func301 ?_
  repeat' (first|refine wu ?_|exact wkc|intro hc|refine wk2 ?_ ?_|refine wv ht ?_|refine wv hb ?_|refine wv ho ?_|fail)
  all_goals
   refine RetK.pure rfl (Le.tree rfl (TLe.of_eq ?_)) rfl
   clear ht hb ho
   simp only[zuC,T.ag.injEq,qba,T.v.injEq,Value.bool.injEq,and_true,true_eq_decide_iff,false_eq_decide_iff,eq_comm (a:=true),eq_comm (a:=false),qbS,qaz,Bool.or_eq_false_iff,Bool.and_eq_false_iff,qbX,Bool.not_eq_false',decide_eq_true_eq,decide_eq_false_iff_not,Bool.false_eq_true,true_and,reduceCtorEq] <;>
    first|omega|(simp_all;done)|(simp_all;omega)
def oneI(k o t v:Int)(nm:Str)(n:Int):Int:=
 if 64<n then 3
 else if(ofF k o t v n).args=false\/(ofF k o t v n).typed=false\/((ofF k o t v n).op≠decide (o≠0))\/((ofF k o t v n).op=true/\(o<1\/16<o)) then 5
 else if(ofF k o t v n).name=true then(if ident nm then 0 else 6)
 else if(ofF k o t v n).word=true/\(zgZ nm).2=0 then 0
 else if nm≠ []\/(ofF k o t v n).word=true then 5 else 0
set_option maxHeartbeats 1000000 in
theorem zrq (k o t v:Int) (nm:Str) (l:List T):Pure Tryz.prog 260 [.t (.ag [.i k,.i o,.i t,.i v,.s nm,.sl 6 l])] (.i (oneI k o t v nm l.length)):=by
 have hf:=zs2 k o t v nm l
 have hid:=zhO nm
 have hw:=zlw nm
 unfold oneI
 generalize ofF k o t v l.length=f at*
 generalize ident nm=id at*
 generalize zgZ nm=w at*
 obtain⟨fa,fo,ft,fn,fw⟩:=f
 simp only[zuC]at hf
 obtain⟨w1,w2⟩:=w
 by_cases h64:64<(l.length:Int)
 ·rw[if_pos h64]
  refine so Tryz.func260 ?_
  repeat' (first|refine wu ?_|exact wkc|intro hc|refine wk2 ?_ ?_|fail)
  exact wkr
 ·rw[if_neg h64]
  cases fa with
  | false=>
    rw[if_pos (.inl rfl)]
    refine so Tryz.func260 ?_
    repeat' (first|refine wu ?_|exact wkc|intro hc|refine wk2 ?_ ?_|refine wv hf ?_|fail)
    exact wkr
  | true=>
    cases ft with
    | false=>
      rw[if_pos (.inr (.inl rfl))]
      refine so Tryz.func260 ?_
      repeat' (first|refine wu ?_|exact wkc|intro hc|refine wk2 ?_ ?_|refine wv hf ?_|fail)
      exact wkr
    | true=>
      simp only[qbF,false_or]
      cases fo <;> cases fn <;> cases fw
      all_goals
       refine so Tryz.func260 ?_
       repeat' (first|refine wu ?_|exact wkc|intro hc|refine wk2 ?_ ?_|refine wv hf ?_|refine wb hid ?_ ?_|refine wv hw ?_|fail)
       all_goals
        refine RetK.pure rfl (Le.of_eq ?_) rfl
        refine congrArg (fun z=>SV.t (T.v (Value.int IntKind.i64 z))) ?_
        clear hf hid hw
        first|(simp_all;done)|(simp_all;omega)
end Go.Proofs.YtpnnpgbaiobbjaaGreatDoor
