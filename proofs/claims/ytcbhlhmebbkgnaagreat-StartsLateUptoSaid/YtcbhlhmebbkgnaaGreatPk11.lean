import Derived.Test.YtcbhlhmebbkgnaaGreatPk9
import Derived.Test.YtcbhlhmebbkgnaaGreatPk10
set_option linter.unusedSimpArgs false
set_option linter.unusedVariables false
namespace Go.Proofs.YtcbhlhmebbkgnaaGreat
open Go Go.TL
attribute [local irreducible] TR TO Then zaw RetK Sound zab Kf GG zaZ
theorem zmW:∀(m:Nat) (e:Ex) (acc:List Ex),wEx e≤m->acc.length+wEx e≤1000000000->
  Sound Tryz.prog 173 [.t (exT e),.sl 6 (acc.map exT) 0] [.tail (acc.map exT).length] (fun r H'=>r= .ret (.sl 6 ((acc++flat e).map exT) 0)/\H'=[.tail ((acc++flat e).map exT).length]):=by
 intro m
 induction m with
 | zero=>intro e _ he;have:=zaI e;omega
 | succ m ih0=>
   intro e acc he hb
   have ih:∀x∈e.args,∀acc:List Ex,acc.length+wEx x≤1000000000->Sound Tryz.prog 173 [.t (exT x),.sl 6 (acc.map exT) 0] [.tail (acc.map exT).length] (fun r H'=>r= .ret (.sl 6 ((acc++flat x).map exT) 0)/\H'=[.tail ((acc++flat x).map exT).length]):=
    fun x hx acc hb=>ih0 x acc (by have:=zaE hx;omega) hb
   clear ih0
   have hfl:(flats e.args).length+1=wEx e:=by rw[<-zdp,za2,List.length_cons]
   have hll:=zcq e
   rw[za2]
   have he0:(acc++[e]).map exT=acc.map exT++[.ag (exC e)]:=by simp[zaA]
   rw[zaA]
   have hc0:exC e=[T.n e.kind,T.n e.op,T.n e.t,T.n e.v,.s e.name,.sl 6 (e.args.map exT)]:=rfl
   rw[hc0]at he0⊢
   generalize e.args=l at ih hfl hll he0⊢
   have hml:(l.map exT).length=l.length:=List.length_map _
   have hma:(acc.map exT).length=acc.length:=List.length_map _
   refine so Tryz.func173 ?_
   repeat' (first|refine wu ?_|exact wkc|intro hc|refine wk2 ?_ ?_|fail)
   have hz:(acc++e::flats (l.take 0)).map exT=acc.map exT++[.ag [T.n e.kind,T.n e.op,T.n e.t,T.n e.v,.s e.name,.sl 6 (l.map exT)]]:=by rw[<-he0];simp[flats]
   refine TR.zal l.length (fun _=>True) (fun j=>[(1,.sl 6 ((acc++e::flats (l.take j)).map exT) 0),(2,.cp [T.n e.kind,T.n e.op,T.n e.t,T.n e.v,.s e.name,.sl 6 (l.map exT)] 0),(5,.i j)]) (fun j=>[.tail ((acc++e::flats (l.take j)).map exT).length]) trivial (fun j hlt _=>?_) (fun _=>?_)
    (by(try dsimp only);rw[hz];exact⟨rfl,rfl,rfl,trivial⟩) (by(try dsimp only);rw[hz,List.length_append];rfl)
   ·have hx:=zbd hlt
    have hfs:(flats (l.take (j+1))).length≤(flats l).length:=by
     conv=>rhs;rw[<-List.take_append_drop (j+1) l,zdI]
     simp
    have htk:=ze8 l hlt
    rw[htk,List.length_append,zdp]at hfs
    have hs:=ih l[j] (List.getElem_mem hlt) (acc++e::flats (l.take j)) (by simp only[List.length_append,List.length_cons];omega)
    rw[zaA]at hs
    generalize l[j]=x at hx hs htk
    unfold exC at hx hs
    repeat' (first|refine wu ?_|exact wkc|intro hc|refine wk2 ?_ ?_|refine wd hs ?_|fail)
    exact zab.zak hlt trivial (by(try dsimp only);rw[htk,List.append_assoc,List.cons_append];exact⟨rfl,rfl,rfl,trivial⟩) (by(try dsimp only);rw[htk,List.append_assoc,List.cons_append])
   ·rw[List.take_length]
    repeat' (first|refine wu ?_|exact wkc|intro hc|refine wk2 ?_ ?_|fail)
    exact RetK.at 1 rfl (Le.refl _) (Nat.le_refl _) rfl rfl rfl ⟨rfl,rfl⟩
theorem zpc(e:Ex)(h:wEx e≤1000000000):Pure Tryz.prog 173 [.t (exT e),.t (.v (.slice none 0 0))] (.t (.sl 6 ((flat e).map exT))):=
 Sound.own (Sound.fresh (pre:=[.t (exT e)]) (post:=[]) (zmW _ e [] (Nat.le_refl _) (by simpa using h)))
theorem zju(e:Ex)(h:wEx e≤1000000000):Pure Tryz.prog 127 [.t (exT e)] (.t (.sl 6 ((flat e).map exT))):=by
 have hs:=zpc e h
 rw[zaA]at hs⊢
 unfold exC at*
 refine so Tryz.func127 ?_
 repeat' (first|refine wu ?_|exact wkc|intro hc|refine wk2 ?_ ?_|refine wv hs ?_|fail)
 exact wkr
theorem zm1(e:Ex)(h:wEx e≤1000000000):Pure Tryz.prog 116 [.t (exT e)] (.i (wEx e)):=by
 have hs:=zc4 e
 rw[zaA]at hs⊢
 have hc0:exC e=[T.n e.kind,T.n e.op,T.n e.t,T.n e.v,.s e.name,.sl 6 (e.args.map exT)]:=rfl
 have hfl:=zdp e
 rw[hc0]at hs⊢
 refine so Tryz.func116 ?_
 repeat' (first|refine wkb ?_|refine wk ?_|exact wkc|intro hc|refine wk2 ?_ ?_|refine wv hs ?_|fail)
 refine TR.zd4 e (fun pre=>[.cells [.i pre.length]]) (fun _ _=>.go) rfl h rfl rfl rfl (fun _=>⟨rfl,rfl⟩) (fun _ _=>trivial) (fun fn pre x post hw=>?_) (fun fn=>?_)
 ·have hl:pre.length<wEx e:=by rw[<-hfl,hw];simp
  refine TR.skip ⟨rfl,?_⟩
  repeat' (first|refine wkb ?_|refine wk ?_|exact wkc|intro hc|refine wk2 ?_ ?_|fail)
  exact⟨rfl,by simp,rfl⟩
 ·have:∀(l pre:List Ex),zbm (fun _ _=>Out.go) pre l= .go:=by
   intro l
   induction l with
   | nil=>intro _;rfl
   | cons x l ih=>intro pre;simp[zbm,ih]
  rw[this,<-hfl]
  repeat' (first|refine wkb ?_|refine wk ?_|exact wkc|intro hc|refine wk2 ?_ ?_|fail)
  exact wkr
def bit(c:UInt8):Bool:=decide ((c.toNat:Int)=48) || decide ((c.toNat:Int)=49)
abbrev bitT (c:UInt8):T:=.v (.bool (decide ((c.toNat:Int)=49)))
abbrev zl9 (l:Str):T:=.sl 1 (l.map bitT)
theorem zsL(p:UInt8->Bool):∀(l:Str) (k:Nat),k<(l.takeWhile p).length->∃c,l[k]?=some c/\(l.takeWhile p)[k]?=some c/\p c=true
 | [],k,h=>by simp at h
 | a::l,k,h=>by
   by_cases hp:p a=true
   ·simp only[List.takeWhile_cons,hp,if_true]at h⊢
    cases k with
    | zero=>exact⟨a,rfl,rfl,hp⟩
    | succ k=>simpa using zsL p l k (by simpa using h)
   ·simp[List.takeWhile_cons,hp]at h
theorem zoD(p:UInt8->Bool):∀(l:Str) (c:UInt8),l[(l.takeWhile p).length]?=some c->p c=false
 | [],c,h=>by simp at h
 | a::l,c,h=>by
   by_cases hp:p a=true
   ·simp only[List.takeWhile_cons,hp,if_true,List.length_cons,List.getElem?_cons_succ]at h
    exact zoD p l c h
   ·simp only[List.takeWhile_cons,hp]at h
    simp at h
    subst h
    simpa using hp
theorem zjr(p:UInt8->Bool):∀(l:Str),(l.takeWhile p).length≤l.length
 | []=>Nat.le_refl _
 | a::l=>by
   simp only[List.takeWhile_cons]
   split
   ·have:=zjr p l;simp;omega
   ·simp
theorem zl6(s:Str)(hs:s.length≤1000)(i:Nat)(hi:i≤s.length):Pure Tryz.prog 206 [.s s,.i i] (.t (zl9 ((s.drop i).takeWhile bit))):=by
 have hg:=zsL bit (s.drop i)
 have he:=zoD bit (s.drop i)
 have hle:=zjr bit (s.drop i)
 rw[List.length_drop]at hle
 generalize (s.drop i).takeWhile bit=w at hg he hle⊢
 have hmw:(w.map bitT).length=w.length:=List.length_map _
 refine so Tryz.func206 ?_
 repeat' (first|refine wk ?_|exact wkc|intro hc|refine wk2 ?_ ?_|fail)
 refine TR.tail 1 5 rfl ?_
 refine TR.zal w.length (fun _=>True) (fun k=>[(0,.s s),(1,.i ((i+k:Nat):Int)),(5,.sl 1 ((w.take k).map bitT) 0)]) (fun k=>[.tail ((w.take k).map bitT).length]) trivial (fun k hlt _=>?_) (fun _=>?_)
 ·obtain⟨c,hx,hw,hb⟩:=hg k hlt
  rw[List.getElem?_drop]at hx
  have hik:=(List.getElem?_eq_some_iff.1 hx).1
  have htk:w.take (k+1)=w.take k++[c]:=by rw[List.take_succ_eq_append_getElem hlt];rw[List.getElem?_eq_getElem hlt]at hw;simp at hw;rw[hw]
  have hmk:((w.take k).map bitT).length≤1000:=by simp;omega
  repeat' (first|refine wk ?_|exact wkc|intro hc|refine wk2 ?_ ?_|fail)
  all_goals first
   | (refine zab.zak hlt trivial ?_ ?_
      ·rw[htk,List.map_append]
       simp only[List.map_cons,List.map_nil,bitT, *]
       exact⟨rfl,rfl,rfl,trivial⟩
      ·rw[htk,List.map_append,List.length_append];rfl)
   | (exfalso;simp_all [bit];done)
 ·rw[List.take_length]
  by_cases hlt:i+w.length<s.length
  ·have hx:=List.getElem?_eq_getElem hlt
   have hb:=he s[i+w.length] (by rw[List.getElem?_drop];exact hx)
   generalize s[i+w.length]=c at hx hb
   repeat' (first|refine wk ?_|exact wkc|intro hc|refine wk2 ?_ ?_|fail)
   all_goals first
    | exact wkr
    | (exfalso;simp_all [bit];done)
  ·repeat' (first|refine wk ?_|exact wkc|intro hc|refine wk2 ?_ ?_|fail)
   exact wkr
theorem zle(h l:Str)(hs:h.length≤1000)(hl:l.length≤1000):Pure Tryz.prog 207 [.t (.ag [zl9 h,zl9 l])] (.i (if l.length=0 then 5 else if 64<h.length+l.length then 3 else 0)):=by
 have h1:(h.map bitT).length=h.length:=List.length_map _
 have h2:(l.map bitT).length=l.length:=List.length_map _
 refine so Tryz.func207 ?_
 repeat' (first|refine wu ?_|exact wkc|intro hc|refine wk2 ?_ ?_|fail)
 ·rw[if_pos (by omega)];exact wkr
 ·rw[if_neg (by omega),if_pos (by omega)];exact wkr
 ·rw[if_neg (by omega),if_neg (by omega)];exact wkr
theorem zlm(h l:Str)(hs:h.length≤1000)(hl:l.length≤1000):Pure Tryz.prog 205 [.t (.ag [zl9 h,zl9 l])] (.i (if l.length=0 then 5 else if 64<h.length+l.length then 3 else 0)):=by
 have h1:(h.map bitT).length=h.length:=List.length_map _
 have h2:(l.map bitT).length=l.length:=List.length_map _
 refine so Tryz.func205 ?_
 repeat' (first|refine wu ?_|exact wkc|intro hc|refine wk2 ?_ ?_|fail)
 ·rw[if_pos (by omega)];exact wkr
 ·rw[if_neg (by omega),if_pos (by omega)];exact wkr
 ·rw[if_neg (by omega),if_neg (by omega)];exact wkr
theorem zf4(s:Str)(hs:s.length≤1000):Pure Tryz.prog 204 [.s s] (.tup [.t (zl9 (if s.all bit then s else[])),.b (s.all bit)]):=by
 refine so Tryz.func204 ?_
 repeat' (first|refine wk ?_|exact wkc|intro hc|refine wk2 ?_ ?_|fail)
 refine TR.tail 1 4 rfl ?_
 refine TR.zal s.length (fun k=>(s.take k).all bit=true) (fun k=>[(0,.s s),(7,.i s.length),(8,.i k),(4,.sl 1 ((s.take k).map bitT) 0)]) (fun k=>[.tail ((s.take k).map bitT).length]) rfl (fun k hlt ha=>?_) (fun ha=>?_)
 ·have hx:=List.getElem?_eq_getElem hlt
  have htk:=List.take_succ_eq_append_getElem hlt
  have hm:=List.getElem_mem hlt
  generalize s[k]=c at hx htk hm
  have hmk:((s.take k).map bitT).length≤1000:=by simp;omega
  repeat' (first|refine wk ?_|exact wkc|intro hc|refine wk2 ?_ ?_|fail)
  all_goals first
   | (refine zab.zak hlt (by rw[htk,List.all_append,ha];simp[bit];omega) ?_ ?_
      ·rw[htk,List.map_append]
       simp only[List.map_cons,List.map_nil,bitT, *]
       exact⟨rfl,rfl,rfl,rfl,trivial⟩
      ·rw[htk,List.map_append,List.length_append];rfl)
   | (have h0:s.all bit=false:=List.all_eq_false.2 ⟨c,hm,by simp[bit];omega⟩
      rw[h0]
      simp only[Bool.false_eq_true,if_false,List.map_nil]
      exact wkr)
   | (exfalso;simp_all;done)
 ·rw[List.take_length]at ha⊢
  rw[ha]
  repeat' (first|refine wk ?_|exact wkc|intro hc|refine wk2 ?_ ?_|fail)
  exact wkr
def zeC(s:Str):(Str×Str)×Int:=
 if 66<s.length then(([],[]),3) else
 match s.drop (s.takeWhile bit).length with
 | 40::r=>if r.drop (r.takeWhile bit).length=[41]/\r.takeWhile bit≠ [] then((s.takeWhile bit,r.takeWhile bit),0) else(([],[]),5)
 | _=>(([],[]),5)
abbrev zqX (w:Str×Str):T:=.ag [zl9 w.1,zl9 w.2]
theorem drop_cons{s:Str}{k:Nat}{c:UInt8}(h:s[k]?=some c):s.drop k=c::s.drop (k+1):=by
 have hl:=(List.getElem?_eq_some_iff.1 h)
 rw[List.drop_eq_getElem_cons hl.1,hl.2]
theorem zug{c:UInt8}{k:UInt8}(h:(c.toNat:Int)=(k.toNat:Int)):c=k:=UInt8.toNat_inj.1 (by omega)
theorem zkT(s:Str):Pure Tryz.prog 176 [.s s] (.tup [.t (zqX (zeC s).1),.i (zeC s).2]):=by
 by_cases h66:66<s.length
 ·rw[show zeC s=(([],[]),3) from if_pos h66]
  refine so Tryz.func176 ?_
  repeat' (first|refine wk ?_|exact wkc|intro hc|refine wk2 ?_ ?_|fail)
  exact wkr
 ·have hr0:=zl6 s (by omega) 0 (Nat.zero_le _)
  have htl:=zjr bit s
  have hend:=zoD bit s
  simp only[List.drop_zero]at hr0
  have hsp:zeC s=match s.drop (s.takeWhile bit).length with
   | 40::r=>if r.drop (r.takeWhile bit).length=[41]/\r.takeWhile bit≠ [] then((s.takeWhile bit,r.takeWhile bit),0) else(([],[]),5)
   | _=>(([],[]),5):=if_neg h66
  generalize s.takeWhile bit=h at hr0 htl hend hsp
  have hmh:(h.map bitT).length=h.length:=List.length_map _
  by_cases hlt:h.length<s.length
  ·have hx:=List.getElem?_eq_getElem hlt
   generalize s[h.length]=c at hx
   have hdr:=drop_cons hx
   rw[hdr]at hsp
   by_cases hc40:c=40
   ·subst hc40
    simp only[]at hsp
    have hr1:=zl6 s (by omega) (h.length+1) (by omega)
    have htl1:=zjr bit (s.drop (h.length+1))
    rw[List.length_drop]at htl1
    generalize hl:(s.drop (h.length+1)).takeWhile bit=l at hr1 htl1 hsp
    have hml:(l.map bitT).length=l.length:=List.length_map _
    have hck:=zle h l (by omega) (by omega)
    rw[List.drop_drop]at hsp
    have hxx:(40:UInt8).toNat=40:=rfl
    by_cases hlt1:h.length+1+l.length<s.length
    ·have hx1:=List.getElem?_eq_getElem hlt1
     generalize s[h.length+1+l.length]=c1 at hx1
     have hdr1:=drop_cons hx1
     rw[hdr1]at hsp
     rw[if_neg (show ¬64<h.length+l.length by omega)]at hck
     have hq:=@List.drop_eq_nil_iff _ s (h.length+1+l.length+1)
     have h41:c1=41 ↔ (c1.toNat:Int)=41:=⟨fun e=>by rw[e];rfl,fun e=>zug e⟩
     generalize s.drop (h.length+1+l.length+1)=q at hsp hq
     simp only[List.cons.injEq,h41,hq]at hsp
     rw[hsp]
     clear hsp
     by_cases hl0:l=[]
     ·have hl1:l.length=0:=by rw[hl0];rfl
      rw[if_pos hl1]at hck
      rw[if_neg (by simp[hl0])]
      refine so Tryz.func176 ?_
      repeat' (first|refine wk ?_|exact wkc|intro hc|refine wk2 ?_ ?_|refine wv hr0 ?_|refine wv hr1 ?_|refine wv hck ?_|rw[hmh]|rw[hml]|fail)
      all_goals exact wkr
     ·have hl1:l.length≠0:=fun e=>hl0 (List.eq_nil_of_length_eq_zero e)
      rw[if_neg hl1]at hck
      refine so Tryz.func176 ?_
      repeat' (first|refine wk ?_|exact wkc|intro hc|refine wk2 ?_ ?_|refine wv hr0 ?_|refine wv hr1 ?_|refine wv hck ?_|rw[hmh]|rw[hml]|fail)
      all_goals first
       | (rw[if_neg (by rintro⟨⟨e1,e2⟩,e3⟩;omega)];exact wkr)
       | (rw[if_pos ⟨⟨by omega,by omega⟩,hl0⟩];exact wkr)
    ·have hnil:s.drop (h.length+1+l.length)=[]:=List.drop_eq_nil_of_le (by omega)
     rw[hnil,if_neg (by simp)]at hsp
     rw[hsp]
     refine so Tryz.func176 ?_
     repeat' (first|refine wk ?_|exact wkc|intro hc|refine wk2 ?_ ?_|refine wv hr0 ?_|refine wv hr1 ?_|refine wv hck ?_|rw[hmh]|rw[hml]|fail)
     all_goals exact wkr
   ·have hne:¬(c.toNat:Int)=40:=fun e=>hc40 (zug e)
    have:zeC s=(([],[]),5):=by
     rw[hsp]
     split
     ·rename_i e;cases e;exact absurd rfl hc40
     ·rfl
    rw[this]
    refine so Tryz.func176 ?_
    repeat' (first|refine wk ?_|exact wkc|intro hc|refine wk2 ?_ ?_|refine wv hr0 ?_|rw[hmh]|fail)
    all_goals exact wkr
  ·have hnil:s.drop h.length=[]:=List.drop_eq_nil_of_le (by omega)
   rw[hnil]at hsp
   rw[hsp]
   refine so Tryz.func176 ?_
   repeat' (first|refine wk ?_|exact wkc|intro hc|refine wk2 ?_ ?_|refine wv hr0 ?_|rw[hmh]|fail)
   all_goals exact wkr
def cutS(s:Str)(c:UInt8):Str×Str×Bool:=
 if c∈s then(s.takeWhile (· != c),s.drop ((s.takeWhile (· != c)).length+1),true) else(s,[],false)
theorem zgg(c:UInt8):∀(s:Str),Lib.indexByte s c=if c∈s then((s.takeWhile (· != c)).length:Int) else -1
 | []=>by simp[Lib.indexByte]
 | b::l=>by
   have ih:=zgg c l
   unfold Lib.indexByte
   by_cases hb:b=c
   ·subst hb;simp
   ·have h1:(b == c)=false:=by simpa using hb
    have h2:(b != c)=true:=by simpa using hb
    rw[ih]
    by_cases hm:c∈l
    ·have:((l.takeWhile (· != c)).length:Int)≠ -1:=by omega
     simp[h1,h2,hm,this,List.takeWhile_cons]
    ·have hc:¬c=b:=fun e=>hb e.symm
     simp[h1,hm,hc]
theorem zhu(s:Str)(c:UInt8):Pure Tryz.prog 232 [.s s,.t (.v (.int .u8 c.toNat))] (.i (Lib.indexByte s c)):=by
 refine so Tryz.func232 ?_
 repeat' (first|refine wk ?_|exact wkc|intro hc|refine wk2 ?_ ?_|(apply TO.zhq;exact rfl;exact Tryz.func237;kernel_rfl;kernel_rfl;kernel_rfl;kernel_rfl;exact rfl;exact rfl)|fail)
 refine RetK.pure rfl (Le.of_eq ?_) rfl
 simp[pack]
theorem znh(s:Str)(c:UInt8):Pure Tryz.prog 229 [.s s,.s [c]] (.i (Lib.indexByte s c)):=by
 refine so Tryz.func229 ?_
 repeat' (first|refine wk ?_|exact wkc|intro hc|refine wk2 ?_ ?_|refine wv (zhu s c) ?_|fail)
 ·subst hc
  rw[show Lib.indexByte [c] c=0 from by simp[Lib.indexByte]]
  exact wkr
 ·exact wkr
theorem zoX(s:Str)(c:UInt8)(hs:s.length≤1000000000):Pure Tryz.prog 223 [.s s,.s [c]] (.tup [.s (cutS s c).1,.s (cutS s c).2.1,.b (cutS s c).2.2]):=by
 have hi:=znh s c
 rw[zgg]at hi
 by_cases hm:c∈s
 ·rw[if_pos hm]at hi
  have hle:=zjr (· != c) s
  have hlt:(s.takeWhile (· != c)).length<s.length:=by
   refine Nat.lt_of_le_of_ne hle fun e=>?_
   have:∀l:Str,(l.takeWhile (· != c)).length=l.length->c ∉ l:=by
    intro l
    induction l with
    | nil=>simp
    | cons a l ih=>
      intro h
      by_cases ha:(a != c)=true
      ·simp only[List.takeWhile_cons,ha,if_true,List.length_cons]at h
       have:=ih (by omega)
       simp at ha
       simp[this];exact fun e=>ha e.symm
      ·simp[List.takeWhile_cons,ha]at h
   exact this s e hm
  have htk:s.takeWhile (· != c)=s.take (s.takeWhile (· != c)).length:=by
   conv=>rhs;arg 2;rw[<-List.takeWhile_append_dropWhile (p:=(· != c)) (l:=s)]
   rw[List.take_left]
  simp only[cutS,hm,if_true]
  rw[htk]
  have hlen:(s.take (s.takeWhile (· != c)).length).length=(s.takeWhile (· != c)).length:=by rw[<-htk]
  rw[hlen]
  generalize (s.takeWhile (· != c)).length=k at hi hlt hle⊢
  clear htk hlen
  refine so Tryz.func223 ?_
  repeat' (first|refine wk ?_|exact wkc|intro hc|refine wk2 ?_ ?_|refine wv hi ?_|(apply TO.zhD (a:=k+1) zam;(iterate 5 exact rfl);omega)|fail)
  exact wkr
 ·rw[if_neg hm]at hi
  simp only[cutS,hm,if_false]
  refine so Tryz.func223 ?_
  repeat' (first|refine wk ?_|exact wkc|intro hc|refine wk2 ?_ ?_|refine wv hi ?_|fail)
  exact wkr
theorem zpV(s:Str)(c:UInt8)(hs:s.length≤1000000000):Pure Tryz.prog 202 [.s s,.s [c]] (.tup [.s (cutS s c).1,.s (cutS s c).2.1,.b (cutS s c).2.2]):=by
 refine so Tryz.func202 ?_
 repeat' (first|refine wk ?_|exact wkc|intro hc|refine wk2 ?_ ?_|refine wv (zoX s c hs) ?_|fail)
 exact wkr
def endsIn(s:Str)(c:UInt8):Bool:=decide (1≤s.length) && s.drop (s.length-1) == [c]
theorem zl4(s:Str)(c:UInt8)(hs:s.length≤1000000000):Pure Tryz.prog 230 [.s s,.s [c]] (.b (endsIn s c)):=by
 by_cases h1:1≤s.length
 ·obtain⟨k,hk⟩:∃k,s.length=k+1:=⟨s.length-1,by omega⟩
  have hkk:s.length-1=k:=by omega
  have hki:(s.length:Int)-(([c]:Str).length:Int)=(k:Int):=by simp;omega
  refine so Tryz.func230 ?_
  repeat' (first|refine wk ?_|exact wkc|intro hc|refine wk2 ?_ ?_|(apply TO.zhD (a:=k) zam;(iterate 4 exact rfl);exact congrArg (fun z=>some (SV.i z)) hki;omega)|fail)
  all_goals
   refine RetK.pure rfl (Le.of_eq ?_) rfl
   simp only[pack,endsIn,hkk,h1,decide_true,Bool.true_and,SV.t.injEq,T.v.injEq,Value.bool.injEq]
   simp[hc]
 ·refine so Tryz.func230 ?_
  repeat' (first|refine wk ?_|exact wkc|intro hc|refine wk2 ?_ ?_|fail)
  all_goals first
   | (exfalso;simp at hc;omega)
   | (refine RetK.pure rfl (Le.of_eq ?_) rfl
      simp[pack,endsIn,h1])
def cutE(s:Str)(c:UInt8):Str×Bool:=if endsIn s c then(s.take (s.length-1),true) else(s,false)
theorem znL(s:Str)(c:UInt8)(hs:s.length≤1000000000):Pure Tryz.prog 224 [.s s,.s [c]] (.tup [.s (cutE s c).1,.b (cutE s c).2]):=by
 have hf:=zl4 s c hs
 cases he:endsIn s c with
 | true=>
   rw[he]at hf
   have h1:1≤s.length:=by simp[endsIn]at he;omega
   obtain⟨k,hk⟩:∃k,s.length=k+1:=⟨s.length-1,by omega⟩
   have hkk:s.length-1=k:=by omega
   have hki:(s.length:Int)-(([c]:Str).length:Int)=(k:Int):=by simp;omega
   simp only[cutE,he,if_true,hkk]
   refine so Tryz.func224 ?_
   repeat' (first|refine wk ?_|exact wkc|intro hc|refine wk2 ?_ ?_|refine wv hf ?_|(apply TO.zgq (b:=k) zam;(iterate 4 exact rfl);exact congrArg (fun z=>some (SV.i z)) hki;omega)|fail)
   exact wkr
 | false=>
   rw[he]at hf
   simp only[cutE,he]
   refine so Tryz.func224 ?_
   repeat' (first|refine wk ?_|exact wkc|intro hc|refine wk2 ?_ ?_|refine wv hf ?_|fail)
   exact wkr
theorem zpb(s:Str)(c:UInt8)(hs:s.length≤1000000000):Pure Tryz.prog 203 [.s s,.s [c]] (.tup [.s (cutE s c).1,.b (cutE s c).2]):=by
 refine so Tryz.func203 ?_
 repeat' (first|refine wk ?_|exact wkc|intro hc|refine wk2 ?_ ?_|refine wv (znL s c hs) ?_|fail)
 exact wkr
theorem zsb(s:Str)(c:UInt8):(cutS s c).1.length≤s.length/\(cutS s c).2.1.length≤s.length:=by
 unfold cutS
 split
 ·exact⟨zjr _ _,by simp⟩
 ·simp
theorem zry(s:Str)(c:UInt8):(cutE s c).1.length≤s.length:=by
 unfold cutE;split <;> simp
def zgU(s:Str):(Str×Str)×Int:=
 let a:=cutS s 40
 let b:=cutE a.2.1 41
 if 66<s.length then(([],[]),3)
 else if a.2.2=true/\b.2=true/\a.1.all bit=true/\b.1.all bit=true/\b.1.length≠0/\a.1.length+b.1.length≤64 then((a.1,b.1),0) else(([],[]),5)
theorem zlP(s:Str):Pure Tryz.prog 169 [.s s] (.tup [.t (zqX (zgU s).1),.i (zgU s).2]):=by
 by_cases h66:66<s.length
 ·rw[show zgU s=(([],[]),3) from if_pos h66]
  refine so Tryz.func169 ?_
  repeat' (first|refine wk ?_|exact wkc|intro hc|refine wk2 ?_ ?_|fail)
  exact wkr
 ·have hs:s.length≤1000000000:=by omega
  have hq:zgU s=if(cutS s 40).2.2=true/\(cutE (cutS s 40).2.1 41).2=true/\(cutS s 40).1.all bit=true/\(cutE (cutS s 40).2.1 41).1.all bit=true/\(cutE (cutS s 40).2.1 41).1.length≠0/\(cutS s 40).1.length+(cutE (cutS s 40).2.1 41).1.length≤64
    then(((cutS s 40).1,(cutE (cutS s 40).2.1 41).1),0) else(([],[]),5):=if_neg h66
  have c1:=zpV s 40 hs
  have l1:=zsb s 40
  generalize cutS s 40=a at hq c1 l1
  obtain⟨fr,re,is⟩:=a
  simp only at hq c1 l1
  have c2:=zpb re 41 (by omega)
  have l2:=zry re 41
  generalize cutE re 41=b at hq c2 l2
  obtain⟨bk,cl⟩:=b
  simp only at hq c2 l2
  have c3:=zf4 fr (by omega)
  have c4:=zf4 bk (by omega)
  have hW:∀ {x:Int},Pure Tryz.prog 169 [.s s] (.tup [.t (zqX ([],[])),.i 5])->zgU s=(([],[]),5)->Pure Tryz.prog 169 [.s s] (.tup [.t (zqX (zgU s).1),.i (zgU s).2]):=fun h e=>by rw[e];exact h
  cases is with
  | false=>
    refine hW (x:=0) ?_ (by rw[hq,if_neg (by simp)])
    refine so Tryz.func169 ?_
    repeat' (first|refine wk ?_|exact wkc|intro hc|refine wk2 ?_ ?_|refine wv c1 ?_|refine wv c2 ?_|refine wv c3 ?_|refine wv c4 ?_|fail)
    all_goals exact wkr
  | true=>
    cases cl with
    | false=>
      refine hW (x:=0) ?_ (by rw[hq,if_neg (by simp)])
      refine so Tryz.func169 ?_
      repeat' (first|refine wk ?_|exact wkc|intro hc|refine wk2 ?_ ?_|refine wv c1 ?_|refine wv c2 ?_|refine wv c3 ?_|refine wv c4 ?_|fail)
      all_goals exact wkr
    | true=>
      cases h1:fr.all bit with
      | false=>
        rw[h1]at c3
        refine hW (x:=0) ?_ (by rw[hq,if_neg (by simp[h1])])
        refine so Tryz.func169 ?_
        repeat' (first|refine wk ?_|exact wkc|intro hc|refine wk2 ?_ ?_|refine wv c1 ?_|refine wv c2 ?_|refine wv c3 ?_|refine wv c4 ?_|fail)
        all_goals exact wkr
      | true=>
        rw[h1]at c3
        cases h2:bk.all bit with
        | false=>
          rw[h2]at c4
          refine hW (x:=0) ?_ (by rw[hq,if_neg (by simp[h2])])
          refine so Tryz.func169 ?_
          repeat' (first|refine wk ?_|exact wkc|intro hc|refine wk2 ?_ ?_|refine wv c1 ?_|refine wv c2 ?_|refine wv c3 ?_|refine wv c4 ?_|fail)
          all_goals exact wkr
        | true=>
          rw[if_pos rfl]at c3
          rw[h2,if_pos rfl]at c4
          have c5:=zlm fr bk (by omega) (by omega)
          by_cases e1:bk.length=0
          ·rw[if_pos e1]at c5
           refine hW (x:=0) ?_ (by rw[hq,if_neg (by simp[e1])])
           refine so Tryz.func169 ?_
           repeat' (first|refine wk ?_|exact wkc|intro hc|refine wk2 ?_ ?_|refine wv c1 ?_|refine wv c2 ?_|refine wv c3 ?_|refine wv c4 ?_|refine wv c5 ?_|fail)
           all_goals exact wkr
          ·rw[if_neg e1]at c5
           by_cases e2:64<fr.length+bk.length
           ·rw[if_pos e2]at c5
            refine hW (x:=0) ?_ (by rw[hq,if_neg (by rintro⟨-,-,-,-,-,h⟩;omega)])
            refine so Tryz.func169 ?_
            repeat' (first|refine wk ?_|exact wkc|intro hc|refine wk2 ?_ ?_|refine wv c1 ?_|refine wv c2 ?_|refine wv c3 ?_|refine wv c4 ?_|refine wv c5 ?_|fail)
            all_goals exact wkr
           ·rw[if_neg e2]at c5
            rw[hq,if_pos ⟨rfl,rfl,h1,h2,e1,by omega⟩]
            refine so Tryz.func169 ?_
            repeat' (first|refine wk ?_|exact wkc|intro hc|refine wk2 ?_ ?_|refine wv c1 ?_|refine wv c2 ?_|refine wv c3 ?_|refine wv c4 ?_|refine wv c5 ?_|fail)
            all_goals exact wkr
theorem ztp{c:UInt8}(h:bit c=true):c≠40/\c≠41:=by
 refine⟨fun e=>?_,fun e=>?_⟩ <;> (subst e;revert h;decide)
theorem znM(p:UInt8->Bool)(l:Str):l=l.takeWhile p++l.drop (l.takeWhile p).length:=by
 conv=>lhs;rw[<-List.takeWhile_append_dropWhile (p:=p) (l:=l)]
 congr 1
 conv=>rhs;arg 2;rw[<-List.takeWhile_append_dropWhile (p:=p) (l:=l)]
 rw[List.drop_left]
theorem zf5(p:UInt8->Bool):∀(a:Str) (c:UInt8) (b:Str),a.all p=true->p c=false->(a++c::b).takeWhile p=a
 | [],c,b,_,hc=>by simp[List.takeWhile_cons,hc]
 | x::a,c,b,h,hc=>by
   simp only[List.all_cons,Bool.and_eq_true]at h
   simp[List.takeWhile_cons,h.1,zf5 p a c b h.2 hc]
theorem zoo(p:UInt8->Bool):∀(l:Str),(l.takeWhile p).all p=true
 | []=>rfl
 | a::l=>by
   by_cases h:p a=true
   ·simp only[List.takeWhile_cons,h,if_true,List.all_cons,Bool.true_and];exact zoo p l
   ·simp[List.takeWhile_cons,h]
def wshape(s h l:Str):Prop:=s=h++40::(l++[41])/\h.all bit=true/\l.all bit=true/\l≠ []
theorem zh5{s h l:Str}(hs:¬66<s.length)(w:wshape s h l):zeC s=((h,l),0):=by
 obtain⟨rfl,h1,h2,h3⟩:=w
 have e1:(h++40::(l++[41])).takeWhile bit=h:=zf5 bit h 40 _ h1 (by decide)
 have e2:(l++[41]).takeWhile bit=l:=zf5 bit l 41 [] h2 (by decide)
 unfold zeC
 rw[if_neg hs,e1,List.drop_left]
 simp only[e2,List.drop_left]
 rw[if_pos ⟨trivial,h3⟩]
theorem zqF{s:Str}(hs:¬66<s.length):(∃h l,wshape s h l)\/zeC s=(([],[]),5):=by
 unfold zeC
 rw[if_neg hs]
 split
 ·rename_i r hr
  split
  ·rename_i h
   refine .inl ⟨s.takeWhile bit,r.takeWhile bit,?_,zoo _ _,zoo _ _,h.2⟩
   have e1:=znM bit s
   have e2:=znM bit r
   rw[hr]at e1
   rw[h.1]at e2
   rw[<-e2];exact e1
  ·exact .inr rfl
 ·exact .inr rfl
theorem zir{s h l:Str}(hs:¬66<s.length)(w:wshape s h l):zgU s=((h,l),0):=by
 obtain⟨rfl,h1,h2,h3⟩:=w
 have hne:∀(a:Str),a.all bit=true->a.all (· != 40)=true:=fun a ha=>List.all_eq_true.2 fun c hc=>by
  have:=(ztp (List.all_eq_true.1 ha c hc)).1
  simpa using this
 have e1:(h++40::(l++[41])).takeWhile (· != 40)=h:=zf5 _ h 40 _ (hne h h1) (by decide)
 have e2:cutS (h++40::(l++[41])) 40=(h,l++[41],true):=by
  unfold cutS
  rw[if_pos (by simp),e1]
  have:(h++40::(l++[41])).drop (h.length+1)=l++[41]:=by
   rw[show h++40::(l++[41])=(h++[40])++(l++[41]) from by simp]
   exact List.drop_left' (by simp)
  rw[this]
 have e3:cutE (l++[41]) 41=(l,true):=by
  unfold cutE endsIn
  simp
 have e4:l.length≠0:=fun e=>h3 (List.eq_nil_of_length_eq_zero e)
 unfold zgU
 simp only[if_neg hs,e2,e3]
 rw[if_pos]
 simp only[List.length_append,List.length_cons,List.length_nil]at hs
 exact⟨by trivial,by trivial,h1,h2,e4,by omega⟩
theorem zpK{s:Str}(hs:¬66<s.length):(∃h l,wshape s h l)\/zgU s=(([],[]),5):=by
 unfold zgU
 simp only[if_neg hs]
 split
 ·rename_i h
  obtain⟨h1,h2,h3,h4,h5,h6⟩:=h
  refine .inl ⟨(cutS s 40).1,(cutE (cutS s 40).2.1 41).1,?_,h3,h4,fun e=>h5 (by rw[e];rfl)⟩
  have g1:(cutE (cutS s 40).2.1 41).1++[41]=(cutS s 40).2.1:=by
   generalize (cutS s 40).2.1=r at h2⊢
   unfold cutE at h2⊢
   split
   ·rename_i he
    unfold endsIn at he
    simp only[Bool.and_eq_true,decide_eq_true_eq,beq_iff_eq]at he
    have:=List.take_append_drop (r.length-1) r
    rw[he.2]at this
    exact this
   ·rename_i he;rw[if_neg he]at h2;cases h2
  rw[g1]
  clear h2 h3 h4 h5 h6 g1
  unfold cutS at h1⊢
  split
  ·rename_i hm
   have e1:=znM (· != 40) s
   have hend:∀c,s[(s.takeWhile (· != 40)).length]?=some c->c=40:=fun c hc=>by
    have:=zoD (· != 40) s c hc
    simpa using this
   cases hd:s.drop (s.takeWhile (· != 40)).length with
   | nil=>
     rw[hd,List.append_nil]at e1
     rw[e1]at hm
     have:=List.all_eq_true.1 (zoo (· != 40) s) 40 hm
     simp at this
   | cons c r=>
     have hx:s[(s.takeWhile (· != 40)).length]?=some c:=by
      have:=List.getElem?_drop (xs:=s) (i:=(s.takeWhile (· != 40)).length) (j:=0)
      rw[hd]at this
      simpa using this.symm
     have:=hend c hx
     subst this
     rw[<-List.tail_drop,hd,List.tail_cons,<-hd]
     exact e1
  ·rename_i hm;rw[if_neg hm]at h1;cases h1
 ·exact .inr rfl
theorem zrs(s:Str):zgU s=zeC s:=by
 by_cases hs:66<s.length
 ·unfold zgU zeC;rw[if_pos hs];simp[hs]
 ·rcases zqF hs with ⟨h,l,w⟩|h
  ·rw[zh5 hs w,zir hs w]
  ·rcases zpK hs with ⟨h',l,w⟩|h'
   ·rw[zh5 hs w,zir hs w]
   ·rw[h,h']
theorem zma(s:Str):Pure Tryz.prog 169 [.s s] (.tup [.t (zqX (zeC s).1),.i (zeC s).2]):=by
 rw[<-zrs];exact zlP s
def letter(c:Int):Bool:=(decide (97≤c) && decide (c≤122)) || (decide (65≤c) && decide (c≤90))
def digit(c:Int):Bool:=decide (48≤c) && decide (c≤57)
def inner(c:Int):Bool:=letter c || digit c || c == 95
abbrev u8 (c:Int):SV:=.t (.v (.int .u8 c))
theorem zeI(c:Int):Pure Tryz.prog 199 [u8 c] (.b (letter c)):=by
 refine so Tryz.func199 ?_
 repeat' (first|refine wk ?_|exact wkc|intro hc|refine wk2 ?_ ?_|fail)
 all_goals try(refine RetK.pure rfl ?_ rfl;exact Le.of_eq (by simp_all [pack,letter] <;> omega))
theorem zeb(c:Int):Pure Tryz.prog 177 [u8 c] (.b (letter c)):=by
 refine so Tryz.func177 ?_
 repeat' (first|refine wk ?_|exact wkc|intro hc|refine wk2 ?_ ?_|fail)
 all_goals try(refine RetK.pure rfl ?_ rfl;exact Le.of_eq (by simp_all [pack,letter] <;> omega))
theorem zno(c:Int):Pure Tryz.prog 222 [u8 c] (.b (digit c)):=by
 refine so Tryz.func222 ?_
 repeat' (first|refine wk ?_|exact wkc|intro hc|refine wk2 ?_ ?_|fail)
 all_goals try(refine RetK.pure rfl ?_ rfl;exact Le.of_eq (by simp_all [pack,digit] <;> omega))
theorem zly(c:Int):Pure Tryz.prog 208 [u8 c] (.b (digit c)):=by
 refine so Tryz.func208 ?_
 repeat' (first|refine wk ?_|exact wkc|intro hc|refine wk2 ?_ ?_|fail)
 all_goals try(refine RetK.pure rfl ?_ rfl;exact Le.of_eq (by simp_all [pack,digit] <;> omega))
theorem znw(c:Int):Pure Tryz.prog 201 [u8 c] (.b (inner c)):=by
 refine so Tryz.func201 ?_
 repeat' (first|refine wk ?_|exact wkc|intro hc|refine wk2 ?_ ?_|refine wb (zeI _) ?_ ?_|refine wb (zno _) ?_ ?_|fail)
 all_goals try(refine RetK.pure rfl ?_ rfl;exact Le.of_eq (by simp_all [pack,inner] <;> omega))
theorem zmf(c:Int):Pure Tryz.prog 178 [u8 c] (.b (inner c)):=by
 refine so Tryz.func178 ?_
 repeat' (first|refine wk ?_|exact wkc|intro hc|refine wk2 ?_ ?_|refine wb (zeb _) ?_ ?_|refine wb (zly _) ?_ ?_|fail)
 all_goals try(refine RetK.pure rfl ?_ rfl;exact Le.of_eq (by simp_all [pack,inner] <;> omega))
def kws:List Str:=[
 [97,115,115,117,109,101],[97,110,100],[97,117,116,111,109,97,116,111,110],[98,111,111,108],[99,111,110,116,105,110,117,101],[100,111],[100,111,110,101],[101,108,115,101],[101,110,100],[101,110,115,117,114,101],[101,118,101,114,121],[102,97,108,115,101],[102,98,121],[105,102],[105,110,116],[108,101,116],[109,101,114,103,101],[109,111,100],[110,111,100,101],[110,111,116],[111,114],[112,114,101],[114,101,116,117,114,110,115],[115,116,97,116,101],[116,101,108],[116,104,101,110],[116,114,117,101],[116,121,112,101],[117,110,108,101,115,115],[117,110,116,105,108],[118,97,114],[119,104,101,110],[120,111,114]]
def keyword(s:Str):Bool:=kws.any fun w=>s == w
set_option maxHeartbeats 4000000 in
theorem zfE (s:Str):Pure Tryz.prog 200 [.s s] (.b (keyword s)):=by
 refine so Tryz.func200 ?_
 repeat' (first|refine wk ?_|exact wkc|intro hc|refine wk2 ?_ ?_|fail)
 all_goals refine RetK.pure rfl ?_ rfl
 all_goals exact Le.of_eq (by simp[keyword,kws,pack, *])
def zgp(c:UInt8):Bool:=inner c.toNat
def zgE(c:UInt8):Bool:=letter c.toNat
def ident(s:Str):Bool:=
 match s with
 | []=>false
 | c::r=>decide (r.length+1≤40) && zgE c && !keyword (c::r) && (c::r).all zgp
theorem zh0(s:Str):Pure Tryz.prog 168 [.s s] (.b (ident s)):=by
 refine so Tryz.func168 ?_
 cases s with
 | nil=>
   repeat' (first|refine wk ?_|exact wkc|intro hc|refine wk2 ?_ ?_|refine wb (zeI _) ?_ ?_|refine wb (zfE _) ?_ ?_|fail)
   all_goals try(refine RetK.pure rfl ?_ rfl;exact Le.of_eq (by simp_all [pack,ident] <;> omega))
 | cons c r=>
   repeat' (first|refine wk ?_|exact wkc|intro hc|refine wk2 ?_ ?_|refine wb (zeI _) ?_ ?_|refine wb (zfE _) ?_ ?_|fail)
   all_goals try(refine RetK.pure rfl ?_ rfl;exact Le.of_eq (by simp_all [pack,ident,zgE] <;> omega))
   refine TR.zal (c::r).length (fun k=>((c::r).take k).all zgp=true) (fun k=>[(0,.s (c::r)),(22,.i (c::r).length),(23,.i k)]) (fun _=>[]) rfl (fun k hlt ha=>?_) (fun ha=>?_)
   ·have hx:=List.getElem?_eq_getElem hlt
    repeat' (first|refine wk ?_|exact wkc|intro hc|refine wk2 ?_ ?_|refine wb (znw _) ?_ ?_|fail)
    ·refine zab.zak hlt ?_
     rw[List.take_succ_eq_append_getElem hlt,List.all_append,ha]
     simpa [zgp]using hc
    ·refine RetK.pure rfl (Le.of_eq ?_) rfl
     have:(c::r).all zgp=false:=by
      rw[List.all_eq_false]
      exact⟨_,List.getElem_mem hlt,by simpa [zgp]using hc⟩
     simp only[pack,ident,this]
     simp
   ·repeat' (first|refine wk ?_|exact wkc|intro hc|refine wk2 ?_ ?_|fail)
    rw[List.take_length]at ha
    refine RetK.pure rfl (Le.of_eq ?_) rfl
    simp_all [pack,ident,zgE]
    omega
theorem zi6:Pure Tryz.prog 209 [] (.t (.sl 1 (kws.map T.s))):=by
 refine so Tryz.func209 ?_
 repeat' (first|refine wk ?_|exact wkc|intro hc|refine wk2 ?_ ?_|fail)
 exact RetK.pure rfl (Le.refl _) rfl
theorem znS(s:Str):(kws.any fun x=>x == s)=keyword s:=by
 unfold keyword
 congr 1
 funext x
 exact Bool.eq_iff_iff.2 (by simp only[beq_iff_eq];exact eq_comm)
theorem zjf(s:Str):Pure Tryz.prog 179 [.s s] (.b (keyword s)):=by
 rw[<-znS]
 refine so Tryz.func179 ?_
 have hkl:kws.length=33:=rfl
 repeat' (first|refine wk ?_|exact wkc|intro hc|refine wk2 ?_ ?_|refine wv zi6 ?_|fail)
 generalize hK:kws=ks
 rw[hK]at hkl
 have hml:(ks.map T.s).length=ks.length:=List.length_map _
 refine TR.zal ks.length (fun k=>(ks.any fun x=>x == s)=((ks.drop k).any fun x=>x == s)) (fun k=>[(0,.s s),(3,.t (.sl 1 (ks.map T.s))),(4,.i k),(2,.b false)]) (fun _=>[]) rfl (fun k hlt ha=>?_) (fun ha=>?_)
 ·have hx:(ks.map T.s)[k]?=some (T.s ks[k]):=by rw[List.getElem?_map,List.getElem?_eq_getElem hlt];rfl
  rw[List.drop_eq_getElem_cons hlt,List.any_cons]at ha
  generalize ks[k]=x at hx ha
  repeat' (first|refine wk ?_|exact wkc|intro hc|refine wk2 ?_ ?_|fail)
  ·refine RetK.pure rfl (Le.of_eq ?_) rfl
   rw[ha,hc];simp[pack]
  ·rw[show(x == s)=false from by simpa using hc,Bool.false_or]at ha
   exact zab.zak hlt ha
 ·rw[List.drop_eq_nil_of_le (by omega)]at ha
  repeat' (first|refine wk ?_|exact wkc|intro hc|refine wk2 ?_ ?_|fail)
  refine RetK.pure rfl (Le.of_eq ?_) rfl
  rw[ha];rfl
theorem zbD(s:Str):Pure Tryz.prog 130 [.s s] (.b (ident s)):=by
 refine so Tryz.func130 ?_
 cases s with
 | nil=>
   repeat' (first|refine wk ?_|exact wkc|intro hc|refine wk2 ?_ ?_|refine wb (zeb _) ?_ ?_|fail)
   all_goals try(refine RetK.pure rfl ?_ rfl;exact Le.of_eq (by simp_all [pack,ident] <;> omega))
 | cons c r=>
   repeat' (first|refine wk ?_|exact wkc|intro hc|refine wk2 ?_ ?_|refine wb (zeb _) ?_ ?_|fail)
   all_goals try(refine RetK.pure rfl ?_ rfl;exact Le.of_eq (by simp_all [pack,ident,zgE] <;> omega))
   refine TR.zal (c::r).length (fun k=>((c::r).take k).all zgp=true) (fun k=>[(0,.s (c::r)),(3,.i k),(2,.b false)]) (fun _=>[]) rfl (fun k hlt ha=>?_) (fun ha=>?_)
   ·have hx:=List.getElem?_eq_getElem hlt
    repeat' (first|refine wk ?_|exact wkc|intro hc|refine wk2 ?_ ?_|refine wb (zmf _) ?_ ?_|fail)
    ·refine zab.zak hlt ?_
     rw[List.take_succ_eq_append_getElem hlt,List.all_append,ha]
     simpa [zgp]using hc
    ·refine RetK.pure rfl (Le.of_eq ?_) rfl
     have:(c::r).all zgp=false:=by
      rw[List.all_eq_false]
      exact⟨_,List.getElem_mem hlt,by simpa [zgp]using hc⟩
     simp only[pack,ident,this]
     simp
   ·repeat' (first|refine wk ?_|exact wkc|intro hc|refine wk2 ?_ ?_|refine wb (zjf _) ?_ ?_|fail)
    all_goals
     rw[List.take_length]at ha
     refine RetK.pure rfl (Le.of_eq ?_) rfl
     have h40:r.length+1≤40:=by simp at *;omega
     have hl:zgE c=true:=by simpa [zgE]using ‹letter _=true›
     simp[pack,ident,ha,hc,hl,h40]
def inW(v:Int):Bool:=decide (-32768≤v) && decide (v≤32767)
theorem zss(v:Int):Pure Tryz.prog 171 [.i v] (.b (inW v)):=by
 refine so Tryz.func171 ?_
 repeat' (first|refine wk ?_|exact wkc|intro hc|refine wk2 ?_ ?_|fail)
 all_goals try(refine RetK.pure rfl ?_ rfl;exact Le.of_eq (by simp_all [pack,inW] <;> omega))
abbrev ensT (es:List En):T:=.sl 2 (es.map enT)
def zg7(es:List En)(t:Int):En×Bool:=
 if 3≤t/\t-3<es.length then(match es[(t-3).toNat]? with|some e=>(e,true)|none=>(⟨[],[]⟩,false)) else(⟨[],[]⟩,false)
def zbK(es:List En)(t:Int):Int:=
 if t=1 then 2 else if t=2 then 65536 else((zg7 es t).1.tags.length:Int)
def hasT(es:List En)(t v:Int):Bool:=if t=2 then inW v else decide (0≤v) && decide (v<zbK es t)
theorem zpp(es:List En)(t:I64):Pure Tryz.prog 170 [.t (ensT es),.n t] (.tup [.t (enT (zg7 es t.1).1),.b (zg7 es t.1).2]):=by
 obtain⟨t,ht1,ht2⟩:=t
 dsimp only[SV.n]
 refine so Tryz.func170 ?_
 have hl:(es.map enT).length=es.length:=List.length_map _
 by_cases h:3≤t/\t-3<es.length
 ·obtain⟨h1,h2⟩:=h
  have hlt:(t-3).toNat<es.length:=by omega
  have hx:=zaX enT hlt
  repeat' (first|refine wk ?_|exact wkc|intro hc|refine wk2 ?_ ?_|fail)
  simp only[zg7,h1,h2,hlt,enT,and_self,if_true,List.getElem?_eq_getElem]
  exact wkr
 ·repeat' (first|refine wk ?_|exact wkc|intro hc|refine wk2 ?_ ?_|fail)
  all_goals
   simp only[zg7,h,enT,if_false]
   exact wkr
theorem zgT(es:List En)(t:I64):Pure Tryz.prog 119 [.t (ensT es),.n t] (.i (zbK es t.1)):=by
 refine so Tryz.func119 ?_
 repeat' (first|refine wk ?_|exact wkc|intro hc|refine wk2 ?_ ?_|refine wv (zpp es t) ?_|fail)
 ·refine RetK.pure rfl (Le.of_eq ?_) rfl
  simp[pack,zbK,hc]
 ·refine RetK.pure rfl (Le.of_eq ?_) rfl
  simp[pack,zbK,hc]
 ·refine RetK.pure rfl (Le.of_eq ?_) rfl
  simp[pack,zbK, *]
theorem zfy(es:List En)(t:I64):Pure Tryz.prog 133 [.t (ensT es),.n t] (.i (zbK es t.1)):=by
 obtain⟨t,ht1,ht2⟩:=t
 dsimp only[SV.n]
 refine so Tryz.func133 ?_
 have hl:(es.map enT).length=es.length:=List.length_map _
 by_cases h:3≤t/\t-3<es.length
 ·obtain⟨h1,h2⟩:=h
  have hlt:(t-3).toNat<es.length:=by omega
  have hx:=zaX enT hlt
  repeat' (first|refine wk ?_|exact wkc|intro hc|refine wk2 ?_ ?_|fail)
  refine RetK.pure rfl (Le.of_eq ?_) rfl
  have e1:t≠1:=by omega
  have e2:t≠2:=by omega
  simp[pack,zbK,zg7,h1,h2,hlt,e1,e2]
 ·repeat' (first|refine wk ?_|exact wkc|intro hc|refine wk2 ?_ ?_|fail)
  all_goals
   refine RetK.pure rfl (Le.of_eq ?_) rfl
   simp[pack,zbK,zg7, *]
theorem zlK(es:List En)(t v:I64):Pure Tryz.prog 120 [.t (ensT es),.n t,.n v] (.b (hasT es t.1 v.1)):=by
 refine so Tryz.func120 ?_
 repeat' (first|refine wk ?_|exact wkc|intro hc|refine wk2 ?_ ?_|refine wv (zss v.1) ?_|refine wv (zgT es t) ?_|fail)
 all_goals
  refine RetK.pure rfl (Le.of_eq ?_) rfl
  simp_all [pack,hasT] <;> omega
theorem zjQ(es:List En)(t v:I64):Pure Tryz.prog 132 [.t (ensT es),.n t,.n v] (.b (hasT es t.1 v.1)):=by
 refine so Tryz.func132 ?_
 repeat' (first|refine wk ?_|exact wkc|intro hc|refine wk2 ?_ ?_|refine wv (zfy es t) ?_|fail)
 all_goals
  refine RetK.pure rfl (Le.of_eq ?_) rfl
  simp_all [pack,hasT,inW] <;> omega
def zby(o:Int):Int:=
 if o=1\/o=3\/o=4\/o=5 then 1 else if o=2\/6≤o/\o≤10 then 2 else if o=11\/o=12 then 3 else if 13≤o/\o≤16 then 4 else 0
def opN(o:Int):Int:=if o=1\/o=2 then 1 else if 3≤o/\o≤16 then 2 else 0
theorem zco(o:Int):(zby o=0/\(o<1\/16<o))\/(zby o=1/\(o=1\/o=3\/o=4\/o=5))\/(zby o=2/\(o=2\/6≤o/\o≤10))\/(zby o=3/\(o=11\/o=12))\/(zby o=4/\13≤o/\o≤16):=by
 unfold zby;repeat' split
 all_goals omega
theorem zfF(o:Int):(opN o=1/\(o=1\/o=2))\/(opN o=2/\3≤o/\o≤16)\/(opN o=0/\(o<1\/16<o)):=by
 unfold opN;repeat' split
 all_goals omega
theorem znD(o:Int):Pure Tryz.prog 123 [.i o] (.tup [.i (zby o),.i (opN o)]):=by
 have h1:=zco o
 have h2:=zfF o
 generalize zby o=a at h1⊢
 generalize opN o=b at h2⊢
 refine so Tryz.func123 ?_
 repeat' (first|refine wk ?_|exact wkc|intro hc|refine wk2 ?_ ?_|fail)
 all_goals
  refine RetK.pure rfl (Le.of_eq ?_) rfl
  simp only[pack,SV.tup.injEq,List.cons.injEq,SV.t.injEq,T.v.injEq,Value.int.injEq,true_and,and_true]
  omega
theorem zjl(o:Int):Pure Tryz.prog 134 [.i o] (.i (opN o)):=by
 have h2:=zfF o
 generalize opN o=b at h2⊢
 refine so Tryz.func134 ?_
 repeat' (first|refine wk ?_|exact wkc|intro hc|refine wk2 ?_ ?_|fail)
 all_goals
  refine RetK.pure rfl (Le.of_eq ?_) rfl
  simp only[pack,SV.t.injEq,T.v.injEq,Value.int.injEq,true_and,and_true]
  omega
theorem zkE(o:Int):Pure Tryz.prog 135 [.i o] (.b (decide (zby o=1))):=by
 have h1:=zco o
 generalize zby o=a at h1⊢
 refine so Tryz.func135 ?_
 repeat' (first|refine wk ?_|exact wkc|intro hc|refine wk2 ?_ ?_|fail)
 all_goals
  refine RetK.pure rfl (Le.of_eq ?_) rfl
  simp only[pack,SV.t.injEq,T.v.injEq,Value.bool.injEq,true_eq_decide_iff,false_eq_decide_iff,eq_comm]
  omega
theorem zjh(o:Int):Pure Tryz.prog 136 [.i o] (.b (decide (zby o=3))):=by
 have h1:=zco o
 generalize zby o=a at h1⊢
 refine so Tryz.func136 ?_
 repeat' (first|refine wk ?_|exact wkc|intro hc|refine wk2 ?_ ?_|fail)
 all_goals
  refine RetK.pure rfl (Le.of_eq ?_) rfl
  simp only[pack,SV.t.injEq,T.v.injEq,Value.bool.injEq,true_eq_decide_iff,false_eq_decide_iff,eq_comm]
  omega
theorem zhw(o:Int):Pure Tryz.prog 137 [.i o] (.b (decide (zby o=2))):=by
 have h1:=zco o
 generalize zby o=a at h1⊢
 refine so Tryz.func137 ?_
 repeat' (first|refine wk ?_|exact wkc|intro hc|refine wk2 ?_ ?_|fail)
 all_goals
  refine RetK.pure rfl (Le.of_eq ?_) rfl
  simp only[pack,SV.t.injEq,T.v.injEq,Value.bool.injEq,true_eq_decide_iff,false_eq_decide_iff,eq_comm]
  omega
abbrev za5 (l:List Int):T:=.sl 1 (l.map T.i)
def okTy(k t0 t:Int):Bool:=if k=1 then decide (t=1) else if k=3 then decide (t=t0) && decide (1≤t) else decide (t=2)
def zaK(o:Int)(ts:List Int):Int×Int:=
 if zby o=0 then(0,2) else if(ts.length:Int)≠opN o then(0,9) else if ts.all (okTy (zby o) (ts.headD 0)) then(if zby o=2 then 2 else 1,0) else(0,10)
theorem zdM{l:List Int}{k:Nat}(h:k<l.length):(l.map T.i)[k]?=some (T.i l[k]):=by simp[h]
theorem zlQ(o:Int)(ts:List Int):Pure Tryz.prog 83 [.i o,.t (za5 ts)] (.tup [.i (zaK o ts).1,.i (zaK o ts).2]):=by
 refine so Tryz.func83 ?_
 have hl:(ts.map T.i).length=ts.length:=List.length_map _
 have hk:=zco o
 have hn:=zfF o
 repeat' (first|refine wk ?_|exact wkc|intro hc|refine wk2 ?_ ?_|refine wv (znD o) ?_|fail)
 ·rw[show zaK o ts=(0,2) from if_pos hc];exact wkr
 ·rename_i h0
  rw[show zaK o ts=(0,9) from by simp only[zaK,if_neg h0];exact if_pos (by omega)];exact wkr
 ·rename_i h0
  have hlen:(ts.length:Int)=opN o:=by omega
  have hr:zaK o ts=if ts.all (okTy (zby o) (ts.headD 0)) then(if zby o=2 then 2 else 1,0) else(0,10):=by
   simp only[zaK,if_neg h0];exact if_neg (by omega)
  rw[hr]
  clear hr
  have hx0:(ts.map T.i)[(0:Int).toNat]?=some (T.i (ts.headD 0)):=by
   cases ts with
   | nil=>simp at hlen;omega
   | cons a l=>rfl
  generalize ts.headD 0=t0 at hx0⊢
  generalize zby o=k at h0 hk⊢
  refine TR.zal ts.length (fun j=>(ts.take j).all (okTy k t0)=true) (fun j=>[(1,.t (za5 ts)),(6,.i k),(23,.t (za5 ts)),(24,.i ts.length),(25,.i j)]) (fun _=>[]) rfl (fun j hlt ha=>?_) (fun ha=>?_) ⟨rfl,rfl,rfl,by rw[<-hl];rfl,rfl,trivial⟩
  ·have hx:=zdM hlt
   have htk:=List.take_succ_eq_append_getElem hlt
   have hm:=List.getElem_mem hlt
   generalize ts[j]=t at hx htk hm
   repeat' (first|refine wk ?_|exact wkc|intro hc|refine wk2 ?_ ?_|fail)
   all_goals first
    | (refine zab.zak hlt ?_;rw[htk,List.all_append,ha];simp_all [okTy];done)
    | (refine zab.zak hlt ?_;rw[htk,List.all_append,ha];simp_all [okTy];omega)
    | (have:ts.all (okTy k t0)=false:=List.all_eq_false.2 ⟨t,hm,by simp_all [okTy]⟩
       simp only[this];exact wkr)
    | (have:ts.all (okTy k t0)=false:=List.all_eq_false.2 ⟨t,hm,by simp_all [okTy];omega⟩
       simp only[this];exact wkr)
  ·rw[List.take_length]at ha
   rw[ha]
   repeat' (first|refine wk ?_|exact wkc|intro hc|refine wk2 ?_ ?_|fail)
   ·simp only[hc,if_true];exact wkr
   ·simp only[hc,if_true,if_false];exact wkr
end Go.Proofs.YtcbhlhmebbkgnaaGreat
