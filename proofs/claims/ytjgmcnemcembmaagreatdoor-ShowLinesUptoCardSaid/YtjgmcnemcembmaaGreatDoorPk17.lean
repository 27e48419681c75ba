import Derived.Test.YtjgmcnemcembmaaGreatDoorPk14
import Derived.Test.YtjgmcnemcembmaaGreatDoorPk16
set_option linter.unusedSimpArgs false
set_option linter.unusedVariables false
namespace Go.Proofs.YtjgmcnemcembmaaGreatDoor
open Go Go.TL
attribute [local irreducible] TR TO Then InBlock RetK Sound LoopK Kf GG ThenL
def exDepth:Ex->Int
 | .mk _ _ _ _ _ l=>(l.attach.map fun x=>exDepth x.1).foldl max 0+1
decreasing_by
 have:=List.sizeOf_lt_of_mem x.2
 simp;omega
theorem exDepth_eq(e:Ex):exDepth e=(e.args.map exDepth).foldl max 0+1:=by cases e;rw[exDepth];simp[Ex.args]
theorem foldl_max_le(b:Int):∀(l:List Int) (a:Int),a≤b->(∀x∈l,x≤b)->l.foldl max a≤b
 | [],a,h,_=>h
 | x::l,a,h,h2=>foldl_max_le b l _ (by have:=h2 x List.mem_cons_self;omega) (fun y hy=>h2 y (List.mem_cons_of_mem _ hy))
theorem foldl_max_ge:∀(l:List Int) (a:Int),a≤l.foldl max a
 | [],a=>Int.le_refl _
 | x::l,a=>by have:=foldl_max_ge l (max a x);simp only[List.foldl_cons];omega
theorem exDepth_le(e:Ex):1≤exDepth e/\exDepth e≤wEx e:=by
 generalize hn:wEx e=n
 induction n using Nat.strongRecOn generalizing e with
 | ind n ih=>
   rw[exDepth_eq]
   have h1:=foldl_max_ge (e.args.map exDepth) 0
   have h2:(e.args.map exDepth).foldl max 0≤(n:Int)-1:=by
    refine foldl_max_le _ _ _ (by have:=wEx_pos e;omega) fun y hy=>?_
    obtain⟨x,hx,rfl⟩:=List.mem_map.1 hy
    have:=wEx_arg hx
    have:=(ih (wEx x) (by omega) x rfl).2
    omega
   omega
theorem take_at{α:Type}{l:List α}{k:Nat}(h:k<l.length):l.take (k+1)=l.take k++[l[k]]:=List.take_succ_eq_append_getElem h
theorem depth_sound':∀(m:Nat) (e:Ex),wEx e≤m->wEx e≤1000000000->Pure Tryz.prog 101 [.t (exT e)] (.i (exDepth e)):=by
 intro m
 induction m with
 | zero=>intro e he;have:=wEx_pos e;omega
 | succ m ih0=>
   intro e he hb
   have ih:∀x∈e.args,Pure Tryz.prog 101 [.t (exT x)] (.i (exDepth x)):=fun x hx=>ih0 x (by have:=wEx_arg hx;omega) (by have:=wEx_arg hx;omega)
   clear ih0
   have hll:=wEx_args e
   have hdl:∀x∈e.args,exDepth x≤1000000000:=fun x hx=>by have:=(exDepth_le x).2;have:=wEx_arg hx;omega
   rw[exDepth_eq,exT_eq]
   unfold exC
   generalize e.args=l at ih hll hdl⊢
   have hml:(l.map exT).length=l.length:=List.length_map _
   refine so Tryz.func101 ?_
   repeat' (first|refine wu ?_|exact wkc|intro hc|refine wk2 ?_ ?_|fail)
   refine TR.loopN l.length (fun _=>True) (fun j=>[(3,.i (((l.take j).map exDepth).foldl max 0)),(7,.t (.sl 6 (l.map exT))),(8,.i l.length),(9,.i j)]) (fun _=>[]) trivial (fun j hlt _=>?_) (fun _=>?_) ⟨rfl,rfl,by rw[<-hml];rfl,rfl,trivial⟩
   ·have hx:=at_exT hlt
    have hs:=ih l[j] (List.getElem_mem hlt)
    rw[exT_eq]at hs
    have hk:((l.take (j+1)).map exDepth).foldl max 0=max (((l.take j).map exDepth).foldl max 0) (exDepth l[j]):=by rw[take_at hlt];simp only[List.map_append,List.map_cons,List.map_nil,List.foldl_append,List.foldl_cons,List.foldl_nil]
    generalize l[j]=x at hx hs hk
    unfold exC at hx hs
    repeat' (first|refine wu ?_|exact wkc|intro hc|refine wk2 ?_ ?_|refine wv hs ?_|fail)
    exact LoopK.nextN hlt trivial (by(try dsimp only);rw[hk];exact⟨rfl,rfl,rfl,rfl,trivial⟩)
   ·rw[List.take_length]
    have h1:=foldl_max_le 1000000000 (l.map exDepth) 0 (by omega) (fun y hy=>by obtain⟨x,hx,rfl⟩:=List.mem_map.1 hy;exact hdl x hx)
    have h2:=foldl_max_ge (l.map exDepth) 0
    repeat' (first|refine wu ?_|exact wkc|intro hc|refine wk2 ?_ ?_|fail)
    exact wkr
theorem depth_sound(e:Ex)(h:wEx e≤1000000000):Pure Tryz.prog 101 [.t (exT e)] (.i (exDepth e)):=depth_sound' _ e (Nat.le_refl _) h
theorem depthR_sound':∀(m:Nat) (e:Ex),wEx e≤m->wEx e≤1000000000->Pure Tryz.prog 108 [.t (exT e)] (.i (exDepth e)):=by
 intro m
 induction m with
 | zero=>intro e he;have:=wEx_pos e;omega
 | succ m ih0=>
   intro e he hb
   have ih:∀x∈e.args,Pure Tryz.prog 108 [.t (exT x)] (.i (exDepth x)):=fun x hx=>ih0 x (by have:=wEx_arg hx;omega) (by have:=wEx_arg hx;omega)
   clear ih0
   have hll:=wEx_args e
   have hdl:∀x∈e.args,exDepth x≤1000000000:=fun x hx=>by have:=(exDepth_le x).2;have:=wEx_arg hx;omega
   rw[exDepth_eq,exT_eq]
   have hc0:exC e=[T.n e.kind,T.n e.op,T.n e.t,T.n e.v,.s e.name,.sl 6 (e.args.map exT)]:=rfl
   rw[hc0]
   generalize e.args=l at ih hll hdl⊢
   have hml:(l.map exT).length=l.length:=List.length_map _
   refine so Tryz.func108 ?_
   repeat' (first|refine wu ?_|exact wkc|intro hc|refine wk2 ?_ ?_|fail)
   refine TR.loopN l.length (fun _=>True) (fun j=>[(3,.i (((l.take j).map exDepth).foldl max 0)),(1,.cp [T.n e.kind,T.n e.op,T.n e.t,T.n e.v,.s e.name,.sl 6 (l.map exT)] 0),(4,.i j)]) (fun _=>[]) trivial (fun j hlt _=>?_) (fun _=>?_)
   ·have hx:=at_exT hlt
    have hs:=ih l[j] (List.getElem_mem hlt)
    rw[exT_eq]at hs
    have hk:((l.take (j+1)).map exDepth).foldl max 0=max (((l.take j).map exDepth).foldl max 0) (exDepth l[j]):=by rw[take_at hlt];simp only[List.map_append,List.map_cons,List.map_nil,List.foldl_append,List.foldl_cons,List.foldl_nil]
    generalize l[j]=x at hx hs hk
    unfold exC at hx hs
    repeat' (first|refine wu ?_|exact wkc|intro hc|refine wk2 ?_ ?_|refine wv hs ?_|fail)
    exact LoopK.nextN hlt trivial (by(try dsimp only);rw[hk];exact⟨rfl,rfl,rfl,trivial⟩)
   ·rw[List.take_length]
    have h1:=foldl_max_le 1000000000 (l.map exDepth) 0 (by omega) (fun y hy=>by obtain⟨x,hx,rfl⟩:=List.mem_map.1 hy;exact hdl x hx)
    have h2:=foldl_max_ge (l.map exDepth) 0
    repeat' (first|refine wu ?_|exact wkc|intro hc|refine wk2 ?_ ?_|fail)
    exact wkr
theorem depthR_sound(e:Ex)(h:wEx e≤1000000000):Pure Tryz.prog 108 [.t (exT e)] (.i (exDepth e)):=depthR_sound' _ e (Nat.le_refl _) h
theorem sum_take_le(f:Ex->Nat)(l:List Ex)(j:Nat):((l.take j).map f).sum≤(l.map f).sum:=by
 conv=>rhs;rw[<-List.take_append_drop j l]
 rw[List.map_append,List.sum_append];omega
theorem sizeR6_sound':∀(m:Nat) (e:Ex),wEx e≤m->wEx e≤1000000000->Pure Tryz.prog 107 [.t (exT e)] (.i (wEx e)):=by
 intro m
 induction m with
 | zero=>intro e he;have:=wEx_pos e;omega
 | succ m ih0=>
   intro e he hb
   have ih:∀x∈e.args,Pure Tryz.prog 107 [.t (exT x)] (.i (wEx x)):=fun x hx=>ih0 x (by have:=wEx_arg hx;omega) (by have:=wEx_arg hx;omega)
   clear ih0
   have hll:=wEx_args e
   rw[wEx_eq]at hb hll⊢
   rw[exT_eq]
   have hc0:exC e=[T.n e.kind,T.n e.op,T.n e.t,T.n e.v,.s e.name,.sl 6 (e.args.map exT)]:=rfl
   rw[hc0]
   generalize e.args=l at ih hll hb⊢
   have hml:(l.map exT).length=l.length:=List.length_map _
   refine so Tryz.func107 ?_
   repeat' (first|refine wu ?_|exact wkc|intro hc|refine wk2 ?_ ?_|fail)
   refine TR.loopN l.length (fun _=>True) (fun j=>[(3,.i ((1+((l.take j).map wEx).sum:Nat):Int)),(1,.cp [T.n e.kind,T.n e.op,T.n e.t,T.n e.v,.s e.name,.sl 6 (l.map exT)] 0),(4,.i j)]) (fun _=>[]) trivial (fun j hlt _=>?_) (fun _=>?_)
   ·have hx:=at_exT hlt
    have hs:=ih l[j] (List.getElem_mem hlt)
    rw[exT_eq]at hs
    have hk:((l.take (j+1)).map wEx).sum=((l.take j).map wEx).sum+wEx l[j]:=by rw[take_at hlt];simp only[List.map_append,List.map_cons,List.map_nil,List.sum_append,List.sum_cons,List.sum_nil,Nat.add_zero]
    have hle:=sum_take_le wEx l (j+1)
    generalize l[j]=x at hx hs hk
    unfold exC at hx hs
    repeat' (first|refine wu ?_|exact wkc|intro hc|refine wk2 ?_ ?_|refine wv hs ?_|fail)
    exact LoopK.nextN hlt trivial (by(try dsimp only);rw[hk,<-Nat.add_assoc];exact⟨rfl,rfl,rfl,trivial⟩)
   ·rw[List.take_length]
    repeat' (first|refine wu ?_|exact wkc|intro hc|refine wk2 ?_ ?_|fail)
    exact wkr
theorem sizeR6_sound(e:Ex)(h:wEx e≤1000000000):Pure Tryz.prog 107 [.t (exT e)] (.i (wEx e)):=sizeR6_sound' _ e (Nat.le_refl _) h
theorem list_sound':∀(m:Nat) (e:Ex) (acc:List Ex),wEx e≤m->acc.length+wEx e≤1000000000->
  Sound Tryz.prog 134 [.t (exT e),.sl 6 (acc.map exT) 0] [.tail (acc.map exT).length] (fun r H'=>r= .ret (.sl 6 ((acc++flat e).map exT) 0)/\H'=[.tail ((acc++flat e).map exT).length]):=by
 intro m
 induction m with
 | zero=>intro e _ he;have:=wEx_pos e;omega
 | succ m ih0=>
   intro e acc he hb
   have ih:∀x∈e.args,∀acc:List Ex,acc.length+wEx x≤1000000000->Sound Tryz.prog 134 [.t (exT x),.sl 6 (acc.map exT) 0] [.tail (acc.map exT).length] (fun r H'=>r= .ret (.sl 6 ((acc++flat x).map exT) 0)/\H'=[.tail ((acc++flat x).map exT).length]):=
    fun x hx acc hb=>ih0 x acc (by have:=wEx_arg hx;omega) hb
   clear ih0
   have hfl:(flats e.args).length+1=wEx e:=by rw[<-flat_len,flat_eq,List.length_cons]
   have hll:=wEx_args e
   rw[flat_eq]
   have he0:(acc++[e]).map exT=acc.map exT++[.ag (exC e)]:=by simp[exT_eq]
   rw[exT_eq]
   have hc0:exC e=[T.n e.kind,T.n e.op,T.n e.t,T.n e.v,.s e.name,.sl 6 (e.args.map exT)]:=rfl
   rw[hc0]at he0⊢
   generalize e.args=l at ih hfl hll he0⊢
   have hml:(l.map exT).length=l.length:=List.length_map _
   have hma:(acc.map exT).length=acc.length:=List.length_map _
   refine so Tryz.func134 ?_
   repeat' (first|refine wu ?_|exact wkc|intro hc|refine wk2 ?_ ?_|fail)
   have hz:(acc++e::flats (l.take 0)).map exT=acc.map exT++[.ag [T.n e.kind,T.n e.op,T.n e.t,T.n e.v,.s e.name,.sl 6 (l.map exT)]]:=by rw[<-he0];simp[flats]
   refine TR.loopN l.length (fun _=>True) (fun j=>[(1,.sl 6 ((acc++e::flats (l.take j)).map exT) 0),(2,.cp [T.n e.kind,T.n e.op,T.n e.t,T.n e.v,.s e.name,.sl 6 (l.map exT)] 0),(5,.i j)]) (fun j=>[.tail ((acc++e::flats (l.take j)).map exT).length]) trivial (fun j hlt _=>?_) (fun _=>?_)
    (by(try dsimp only);rw[hz];exact⟨rfl,rfl,rfl,trivial⟩) (by(try dsimp only);rw[hz,List.length_append];rfl)
   ·have hx:=at_exT hlt
    have hfs:(flats (l.take (j+1))).length≤(flats l).length:=by
     conv=>rhs;rw[<-List.take_append_drop (j+1) l,flats_append]
     simp
    have htk:=flats_take l hlt
    rw[htk,List.length_append,flat_len]at hfs
    have hs:=ih l[j] (List.getElem_mem hlt) (acc++e::flats (l.take j)) (by simp only[List.length_append,List.length_cons];omega)
    rw[exT_eq]at hs
    generalize l[j]=x at hx hs htk
    unfold exC at hx hs
    repeat' (first|refine wu ?_|exact wkc|intro hc|refine wk2 ?_ ?_|refine wd hs ?_|fail)
    exact LoopK.nextN hlt trivial (by(try dsimp only);rw[htk,List.append_assoc,List.cons_append];exact⟨rfl,rfl,rfl,trivial⟩) (by(try dsimp only);rw[htk,List.append_assoc,List.cons_append])
   ·rw[List.take_length]
    repeat' (first|refine wu ?_|exact wkc|intro hc|refine wk2 ?_ ?_|fail)
    exact RetK.at 1 rfl (Le.refl _) (Nat.le_refl _) rfl rfl rfl ⟨rfl,rfl⟩
theorem list_sound(e:Ex)(h:wEx e≤1000000000):Pure Tryz.prog 134 [.t (exT e),.t (.v (.slice none 0 0))] (.t (.sl 6 ((flat e).map exT))):=
 Sound.own (Sound.fresh (pre:=[.t (exT e)]) (post:=[]) (list_sound' _ e [] (Nat.le_refl _) (by simpa using h)))
theorem List_sound(e:Ex)(h:wEx e≤1000000000):Pure Tryz.prog 109 [.t (exT e)] (.t (.sl 6 ((flat e).map exT))):=by
 have hs:=list_sound e h
 rw[exT_eq]at hs⊢
 unfold exC at*
 refine so Tryz.func109 ?_
 repeat' (first|refine wu ?_|exact wkc|intro hc|refine wk2 ?_ ?_|refine wv hs ?_|fail)
 exact wkr
theorem sizeE_sound(e:Ex)(h:wEx e≤1000000000):Pure Tryz.prog 100 [.t (exT e)] (.i (wEx e)):=by
 have hs:=Each_sound e
 rw[exT_eq]at hs⊢
 have hc0:exC e=[T.n e.kind,T.n e.op,T.n e.t,T.n e.v,.s e.name,.sl 6 (e.args.map exT)]:=rfl
 have hfl:=flat_len e
 rw[hc0]at hs⊢
 refine so Tryz.func100 ?_
 repeat' (first|refine wkb ?_|refine wk ?_|exact wkc|intro hc|refine wk2 ?_ ?_|refine wv hs ?_|fail)
 refine TR.rangeEach e (fun pre=>[.cells [.i pre.length]]) (fun _ _=>.go) rfl h rfl rfl rfl (fun _=>⟨rfl,rfl⟩) (fun _ _=>trivial) (fun fn pre x post hw=>?_) (fun fn=>?_)
 ·have hl:pre.length<wEx e:=by rw[<-hfl,hw];simp
  refine TR.skip ⟨rfl,?_⟩
  repeat' (first|refine wkb ?_|refine wk ?_|exact wkc|intro hc|refine wk2 ?_ ?_|fail|fail)
  exact⟨rfl,by simp,rfl⟩
 ·have:∀(l pre:List Ex),scanO (fun _ _=>Out.go) pre l= .go:=by
   intro l
   induction l with
   | nil=>intro _;rfl
   | cons x l ih=>intro pre;simp[scanO,ih]
  rw[this,<-hfl]
  repeat' (first|refine wkb ?_|refine wk ?_|exact wkc|intro hc|refine wk2 ?_ ?_|fail|fail)
  exact wkr
def bit(c:UInt8):Bool:=decide ((c.toNat:Int)=48) || decide ((c.toNat:Int)=49)
abbrev bitT (c:UInt8):T:=.v (.bool (decide ((c.toNat:Int)=49)))
abbrev bitsT (l:Str):T:=.sl 1 (l.map bitT)
theorem tw_get(p:UInt8->Bool):∀(l:Str) (k:Nat),k<(l.takeWhile p).length->∃c,l[k]?=some c/\(l.takeWhile p)[k]?=some c/\p c=true
 | [],k,h=>by simp at h
 | a::l,k,h=>by
   by_cases hp:p a=true
   ·simp only[List.takeWhile_cons,hp,if_true]at h⊢
    cases k with
    | zero=>exact⟨a,rfl,rfl,hp⟩
    | succ k=>simpa using tw_get p l k (by simpa using h)
   ·simp[List.takeWhile_cons,hp]at h
theorem tw_end(p:UInt8->Bool):∀(l:Str) (c:UInt8),l[(l.takeWhile p).length]?=some c->p c=false
 | [],c,h=>by simp at h
 | a::l,c,h=>by
   by_cases hp:p a=true
   ·simp only[List.takeWhile_cons,hp,if_true,List.length_cons,List.getElem?_cons_succ]at h
    exact tw_end p l c h
   ·simp only[List.takeWhile_cons,hp]at h
    simp at h
    subst h
    simpa using hp
theorem tw_len(p:UInt8->Bool):∀(l:Str),(l.takeWhile p).length≤l.length
 | []=>Nat.le_refl _
 | a::l=>by
   simp only[List.takeWhile_cons]
   split
   ·have:=tw_len p l;simp;omega
   ·simp
theorem run_sound(s:Str)(hs:s.length≤1000)(i:Nat)(hi:i≤s.length):Pure Tryz.prog 155 [.s s,.i i] (.t (bitsT ((s.drop i).takeWhile bit))):=by
 have hg:=tw_get bit (s.drop i)
 have he:=tw_end bit (s.drop i)
 have hle:=tw_len bit (s.drop i)
 rw[List.length_drop]at hle
 generalize (s.drop i).takeWhile bit=w at hg he hle⊢
 have hmw:(w.map bitT).length=w.length:=List.length_map _
 refine so Tryz.func155 ?_
 repeat' (first|refine wk ?_|exact wkc|intro hc|refine wk2 ?_ ?_|fail)
 refine TR.tail 1 5 rfl ?_
 refine TR.loopN w.length (fun _=>True) (fun k=>[(0,.s s),(1,.i ((i+k:Nat):Int)),(5,.sl 1 ((w.take k).map bitT) 0)]) (fun k=>[.tail ((w.take k).map bitT).length]) trivial (fun k hlt _=>?_) (fun _=>?_)
 ·obtain⟨c,hx,hw,hb⟩:=hg k hlt
  rw[List.getElem?_drop]at hx
  have hik:=(List.getElem?_eq_some_iff.1 hx).1
  have htk:w.take (k+1)=w.take k++[c]:=by rw[List.take_succ_eq_append_getElem hlt];rw[List.getElem?_eq_getElem hlt]at hw;simp at hw;rw[hw]
  have hmk:((w.take k).map bitT).length≤1000:=by simp;omega
  repeat' (first|refine wk ?_|exact wkc|intro hc|refine wk2 ?_ ?_|fail)
  all_goals first
   | (refine LoopK.nextN hlt trivial ?_ ?_
      ·rw[htk,List.map_append]
       simp only[List.map_cons,List.map_nil,bitT, *]
       exact⟨rfl,rfl,rfl,trivial⟩
      ·rw[htk,List.map_append,List.length_append];rfl)
   | (exfalso;simp_all [bit];done)
 ·rw[List.take_length]
  by_cases hlt:i+w.length<s.length
  ·have hx:=List.getElem?_eq_getElem hlt
   have hb:=he s[i+w.length] (by rw[List.getElem?_drop];exact hx)
   generalize s[i+w.length]=c at hx hb
   repeat' (first|refine wk ?_|exact wkc|intro hc|refine wk2 ?_ ?_|fail)
   all_goals first
    | exact wkr
    | (exfalso;simp_all [bit];done)
  ·repeat' (first|refine wk ?_|exact wkc|intro hc|refine wk2 ?_ ?_|fail)
   exact wkr
theorem checkR2_sound(h l:Str)(hs:h.length≤1000)(hl:l.length≤1000):Pure Tryz.prog 156 [.t (.ag [bitsT h,bitsT l])] (.i (if l.length=0 then 5 else if 64<h.length+l.length then 3 else 0)):=by
 have h1:(h.map bitT).length=h.length:=List.length_map _
 have h2:(l.map bitT).length=l.length:=List.length_map _
 refine so Tryz.func156 ?_
 repeat' (first|refine wu ?_|exact wkc|intro hc|refine wk2 ?_ ?_|fail)
 ·rw[if_pos (by omega)];exact wkr
 ·rw[if_neg (by omega),if_pos (by omega)];exact wkr
 ·rw[if_neg (by omega),if_neg (by omega)];exact wkr
theorem checkW_sound(h l:Str)(hs:h.length≤1000)(hl:l.length≤1000):Pure Tryz.prog 152 [.t (.ag [bitsT h,bitsT l])] (.i (if l.length=0 then 5 else if 64<h.length+l.length then 3 else 0)):=by
 have h1:(h.map bitT).length=h.length:=List.length_map _
 have h2:(l.map bitT).length=l.length:=List.length_map _
 refine so Tryz.func152 ?_
 repeat' (first|refine wu ?_|exact wkc|intro hc|refine wk2 ?_ ?_|fail)
 ·rw[if_pos (by omega)];exact wkr
 ·rw[if_neg (by omega),if_pos (by omega)];exact wkr
 ·rw[if_neg (by omega),if_neg (by omega)];exact wkr
theorem letters_sound(s:Str)(hs:s.length≤1000):Pure Tryz.prog 151 [.s s] (.tup [.t (bitsT (if s.all bit then s else[])),.b (s.all bit)]):=by
 refine so Tryz.func151 ?_
 repeat' (first|refine wk ?_|exact wkc|intro hc|refine wk2 ?_ ?_|fail)
 refine TR.tail 1 4 rfl ?_
 refine TR.loopN s.length (fun k=>(s.take k).all bit=true) (fun k=>[(0,.s s),(7,.i s.length),(8,.i k),(4,.sl 1 ((s.take k).map bitT) 0)]) (fun k=>[.tail ((s.take k).map bitT).length]) rfl (fun k hlt ha=>?_) (fun ha=>?_)
 ·have hx:=List.getElem?_eq_getElem hlt
  have htk:=List.take_succ_eq_append_getElem hlt
  have hm:=List.getElem_mem hlt
  generalize s[k]=c at hx htk hm
  have hmk:((s.take k).map bitT).length≤1000:=by simp;omega
  repeat' (first|refine wk ?_|exact wkc|intro hc|refine wk2 ?_ ?_|fail)
  all_goals first
   | (refine LoopK.nextN hlt (by rw[htk,List.all_append,ha];simp[bit];omega) ?_ ?_
      ·rw[htk,List.map_append]
       simp only[List.map_cons,List.map_nil,bitT, *]
       exact⟨rfl,rfl,rfl,rfl,trivial⟩
      ·rw[htk,List.map_append,List.length_append];rfl)
   | (have h0:s.all bit=false:=List.all_eq_false.2 ⟨c,hm,by simp[bit];omega⟩
      rw[h0]
      simp only[Bool.false_eq_true,if_false,List.map_nil]
      exact wkr)
   | (exfalso;simp_all;done)
 ·rw[List.take_length]at ha⊢
  rw[ha]
  repeat' (first|refine wk ?_|exact wkc|intro hc|refine wk2 ?_ ?_|fail)
  exact wkr
def wordP(s:Str):(Str×Str)×Int:=
 if 66<s.length then(([],[]),3) else
 match s.drop (s.takeWhile bit).length with
 | 40::r=>if r.drop (r.takeWhile bit).length=[41]/\r.takeWhile bit≠ [] then((s.takeWhile bit,r.takeWhile bit),0) else(([],[]),5)
 | _=>(([],[]),5)
abbrev wordT (w:Str×Str):T:=.ag [bitsT w.1,bitsT w.2]
theorem drop_cons{s:Str}{k:Nat}{c:UInt8}(h:s[k]?=some c):s.drop k=c::s.drop (k+1):=by
 have hl:=(List.getElem?_eq_some_iff.1 h)
 rw[List.drop_eq_getElem_cons hl.1,hl.2]
theorem u8_of{c:UInt8}{k:UInt8}(h:(c.toNat:Int)=(k.toNat:Int)):c=k:=UInt8.toNat_inj.1 (by omega)
theorem parseR2_sound(s:Str):Pure Tryz.prog 137 [.s s] (.tup [.t (wordT (wordP s).1),.i (wordP s).2]):=by
 by_cases h66:66<s.length
 ·rw[show wordP s=(([],[]),3) from if_pos h66]
  refine so Tryz.func137 ?_
  repeat' (first|refine wk ?_|exact wkc|intro hc|refine wk2 ?_ ?_|fail)
  exact wkr
 ·have hr0:=run_sound s (by omega) 0 (Nat.zero_le _)
  have htl:=tw_len bit s
  have hend:=tw_end bit s
  simp only[List.drop_zero]at hr0
  have hsp:wordP s=match s.drop (s.takeWhile bit).length with
   | 40::r=>if r.drop (r.takeWhile bit).length=[41]/\r.takeWhile bit≠ [] then((s.takeWhile bit,r.takeWhile bit),0) else(([],[]),5)
   | _=>(([],[]),5):=if_neg h66
  generalize s.takeWhile bit=h at hr0 htl hend hsp
  have hmh:(h.map bitT).length=h.length:=List.length_map _
  by_cases hlt:h.length<s.length
  ·have hx:=List.getElem?_eq_getElem hlt
   generalize s[h.length]=c at hx
   have hdr:=drop_cons hx
   rw[hdr]at hsp
   by_cases hc40:c=40
   ·subst hc40
    simp only[]at hsp
    have hr1:=run_sound s (by omega) (h.length+1) (by omega)
    have htl1:=tw_len bit (s.drop (h.length+1))
    rw[List.length_drop]at htl1
    generalize hl:(s.drop (h.length+1)).takeWhile bit=l at hr1 htl1 hsp
    have hml:(l.map bitT).length=l.length:=List.length_map _
    have hck:=checkR2_sound h l (by omega) (by omega)
    rw[List.drop_drop]at hsp
    have hxx:(40:UInt8).toNat=40:=rfl
    by_cases hlt1:h.length+1+l.length<s.length
    ·have hx1:=List.getElem?_eq_getElem hlt1
     generalize s[h.length+1+l.length]=c1 at hx1
     have hdr1:=drop_cons hx1
     rw[hdr1]at hsp
     rw[if_neg (show ¬64<h.length+l.length by omega)]at hck
     have hq:=@List.drop_eq_nil_iff _ s (h.length+1+l.length+1)
     have h41:c1=41 ↔ (c1.toNat:Int)=41:=⟨fun e=>by rw[e];rfl,fun e=>u8_of e⟩
     generalize s.drop (h.length+1+l.length+1)=q at hsp hq
     simp only[List.cons.injEq,h41,hq]at hsp
     rw[hsp]
     clear hsp
     by_cases hl0:l=[]
     ·have hl1:l.length=0:=by rw[hl0];rfl
      rw[if_pos hl1]at hck
      rw[if_neg (by simp[hl0])]
      refine so Tryz.func137 ?_
      repeat' (first|refine wk ?_|exact wkc|intro hc|refine wk2 ?_ ?_|refine wv hr0 ?_|refine wv hr1 ?_|refine wv hck ?_|rw[hmh]|rw[hml]|fail)
      all_goals exact wkr
     ·have hl1:l.length≠0:=fun e=>hl0 (List.eq_nil_of_length_eq_zero e)
      rw[if_neg hl1]at hck
      refine so Tryz.func137 ?_
      repeat' (first|refine wk ?_|exact wkc|intro hc|refine wk2 ?_ ?_|refine wv hr0 ?_|refine wv hr1 ?_|refine wv hck ?_|rw[hmh]|rw[hml]|fail)
      all_goals first
       | (rw[if_neg (by rintro⟨⟨e1,e2⟩,e3⟩;omega)];exact wkr)
       | (rw[if_pos ⟨⟨by omega,by omega⟩,hl0⟩];exact wkr)
    ·have hnil:s.drop (h.length+1+l.length)=[]:=List.drop_eq_nil_of_le (by omega)
     rw[hnil,if_neg (by simp)]at hsp
     rw[hsp]
     refine so Tryz.func137 ?_
     repeat' (first|refine wk ?_|exact wkc|intro hc|refine wk2 ?_ ?_|refine wv hr0 ?_|refine wv hr1 ?_|refine wv hck ?_|rw[hmh]|rw[hml]|fail)
     all_goals exact wkr
   ·have hne:¬(c.toNat:Int)=40:=fun e=>hc40 (u8_of e)
    have:wordP s=(([],[]),5):=by
     rw[hsp]
     split
     ·rename_i e;cases e;exact absurd rfl hc40
     ·rfl
    rw[this]
    refine so Tryz.func137 ?_
    repeat' (first|refine wk ?_|exact wkc|intro hc|refine wk2 ?_ ?_|refine wv hr0 ?_|rw[hmh]|fail)
    all_goals exact wkr
  ·have hnil:s.drop h.length=[]:=List.drop_eq_nil_of_le (by omega)
   rw[hnil]at hsp
   rw[hsp]
   refine so Tryz.func137 ?_
   repeat' (first|refine wk ?_|exact wkc|intro hc|refine wk2 ?_ ?_|refine wv hr0 ?_|rw[hmh]|fail)
   all_goals exact wkr
def cutS(s:Str)(c:UInt8):Str×Str×Bool:=
 if c∈s then(s.takeWhile (· != c),s.drop ((s.takeWhile (· != c)).length+1),true) else(s,[],false)
theorem indexByte_mem(c:UInt8):∀(s:Str),Lib.indexByte s c=if c∈s then((s.takeWhile (· != c)).length:Int) else -1
 | []=>by simp[Lib.indexByte]
 | b::l=>by
   have ih:=indexByte_mem c l
   unfold Lib.indexByte
   by_cases hb:b=c
   ·subst hb;simp
   ·have h1:(b == c)=false:=by simpa using hb
    have h2:(b != c)=true:=by simpa using hb
    rw[ih]
    by_cases hm:c∈l
    ·have:((l.takeWhile (· != c)).length:Int)≠ -1:=by omega
     simp[h1,h2,hm,this,List.takeWhile_cons]
    ·have hc:¬c=b:=fun e=>hb e.symm
     simp[h1,hm,hc]
theorem indexByteS_sound(s:Str)(c:UInt8):Pure Tryz.prog 169 [.s s,.t (.v (.int .u8 c.toNat))] (.i (Lib.indexByte s c)):=by
 refine so Tryz.func169 ?_
 repeat' (first|refine wk ?_|exact wkc|intro hc|refine wk2 ?_ ?_|(apply TO.extern_indexByte;exact rfl;exact Tryz.func178;kernel_rfl;kernel_rfl;kernel_rfl;kernel_rfl;exact rfl;exact rfl)|fail)
 refine RetK.pure rfl (Le.of_eq ?_) rfl
 simp[pack]
theorem index_sound(s:Str)(c:UInt8):Pure Tryz.prog 163 [.s s,.s [c]] (.i (Lib.indexByte s c)):=by
 refine so Tryz.func163 ?_
 repeat' (first|refine wk ?_|exact wkc|intro hc|refine wk2 ?_ ?_|refine wv (indexByteS_sound s c) ?_|fail)
 ·subst hc
  rw[show Lib.indexByte [c] c=0 from by simp[Lib.indexByte]]
  exact wkr
 ·exact wkr
theorem cut0_sound(s:Str)(c:UInt8)(hs:s.length≤1000000000):Pure Tryz.prog 159 [.s s,.s [c]] (.tup [.s (cutS s c).1,.s (cutS s c).2.1,.b (cutS s c).2.2]):=by
 have hi:=index_sound s c
 rw[indexByte_mem]at hi
 by_cases hm:c∈s
 ·rw[if_pos hm]at hi
  have hle:=tw_len (· != c) s
  have hlt:(s.takeWhile (· != c)).length<s.length:=by
   refine Nat.lt_of_le_of_ne hle fun e=>?_
   have:∀l:Str,(l.takeWhile (· != c)).length=l.length->c ∉ l:=by
    intro l
    induction l with
    | nil=>simp
    | cons a l ih=>
      intro h
      by_cases ha:(a != c)=true
      ·simp only[List.takeWhile_cons,ha,if_true,List.length_cons]at h
       have:=ih (by omega)
       simp at ha
       simp[this];exact fun e=>ha e.symm
      ·simp[List.takeWhile_cons,ha]at h
   exact this s e hm
  have htk:s.takeWhile (· != c)=s.take (s.takeWhile (· != c)).length:=by
   conv=>rhs;arg 2;rw[<-List.takeWhile_append_dropWhile (p:=(· != c)) (l:=s)]
   rw[List.take_left]
  simp only[cutS,hm,if_true]
  rw[htk]
  have hlen:(s.take (s.takeWhile (· != c)).length).length=(s.takeWhile (· != c)).length:=by rw[<-htk]
  rw[hlen]
  generalize (s.takeWhile (· != c)).length=k at hi hlt hle⊢
  clear htk hlen
  refine so Tryz.func159 ?_
  repeat' (first|refine wk ?_|exact wkc|intro hc|refine wk2 ?_ ?_|refine wv hi ?_|(apply TO.slice_lo (a:=k+1) tabOk;exact rfl;exact rfl;exact rfl;exact rfl;exact rfl;omega)|fail)
  exact wkr
 ·rw[if_neg hm]at hi
  simp only[cutS,hm,if_false]
  refine so Tryz.func159 ?_
  repeat' (first|refine wk ?_|exact wkc|intro hc|refine wk2 ?_ ?_|refine wv hi ?_|fail)
  exact wkr
theorem cut_sound(s:Str)(c:UInt8)(hs:s.length≤1000000000):Pure Tryz.prog 149 [.s s,.s [c]] (.tup [.s (cutS s c).1,.s (cutS s c).2.1,.b (cutS s c).2.2]):=by
 refine so Tryz.func149 ?_
 repeat' (first|refine wk ?_|exact wkc|intro hc|refine wk2 ?_ ?_|refine wv (cut0_sound s c hs) ?_|fail)
 exact wkr
def endsIn(s:Str)(c:UInt8):Bool:=decide (1≤s.length) && s.drop (s.length-1) == [c]
theorem hasSuf_sound(s:Str)(c:UInt8)(hs:s.length≤1000000000):Pure Tryz.prog 164 [.s s,.s [c]] (.b (endsIn s c)):=by
 by_cases h1:1≤s.length
 ·obtain⟨k,hk⟩:∃k,s.length=k+1:=⟨s.length-1,by omega⟩
  have hkk:s.length-1=k:=by omega
  have hki:(s.length:Int)-(([c]:Str).length:Int)=(k:Int):=by simp;omega
  refine so Tryz.func164 ?_
  repeat' (first|refine wk ?_|exact wkc|intro hc|refine wk2 ?_ ?_|(apply TO.slice_lo (a:=k) tabOk;exact rfl;exact rfl;exact rfl;exact rfl;exact congrArg (fun z=>some (SV.i z)) hki;omega)|fail)
  all_goals
   refine RetK.pure rfl (Le.of_eq ?_) rfl
   simp only[pack,endsIn,hkk,h1,decide_true,Bool.true_and,SV.t.injEq,T.v.injEq,Value.bool.injEq]
   simp[hc]
 ·refine so Tryz.func164 ?_
  repeat' (first|refine wk ?_|exact wkc|intro hc|refine wk2 ?_ ?_|fail)
  all_goals first
   | (exfalso;simp at hc;omega)
   | (refine RetK.pure rfl (Le.of_eq ?_) rfl
      simp[pack,endsIn,h1])
def cutE(s:Str)(c:UInt8):Str×Bool:=if endsIn s c then(s.take (s.length-1),true) else(s,false)
theorem cutE0_sound(s:Str)(c:UInt8)(hs:s.length≤1000000000):Pure Tryz.prog 160 [.s s,.s [c]] (.tup [.s (cutE s c).1,.b (cutE s c).2]):=by
 have hf:=hasSuf_sound s c hs
 cases he:endsIn s c with
 | true=>
   rw[he]at hf
   have h1:1≤s.length:=by simp[endsIn]at he;omega
   obtain⟨k,hk⟩:∃k,s.length=k+1:=⟨s.length-1,by omega⟩
   have hkk:s.length-1=k:=by omega
   have hki:(s.length:Int)-(([c]:Str).length:Int)=(k:Int):=by simp;omega
   simp only[cutE,he,if_true,hkk]
   refine so Tryz.func160 ?_
   repeat' (first|refine wk ?_|exact wkc|intro hc|refine wk2 ?_ ?_|refine wv hf ?_|(apply TO.slice_hi (b:=k) tabOk;exact rfl;exact rfl;exact rfl;exact rfl;exact congrArg (fun z=>some (SV.i z)) hki;omega)|fail)
   exact wkr
 | false=>
   rw[he]at hf
   simp only[cutE,he]
   refine so Tryz.func160 ?_
   repeat' (first|refine wk ?_|exact wkc|intro hc|refine wk2 ?_ ?_|refine wv hf ?_|fail)
   exact wkr
theorem cutE_sound(s:Str)(c:UInt8)(hs:s.length≤1000000000):Pure Tryz.prog 150 [.s s,.s [c]] (.tup [.s (cutE s c).1,.b (cutE s c).2]):=by
 refine so Tryz.func150 ?_
 repeat' (first|refine wk ?_|exact wkc|intro hc|refine wk2 ?_ ?_|refine wv (cutE0_sound s c hs) ?_|fail)
 exact wkr
theorem cutS_len(s:Str)(c:UInt8):(cutS s c).1.length≤s.length/\(cutS s c).2.1.length≤s.length:=by
 unfold cutS
 split
 ·exact⟨tw_len _ _,by simp⟩
 ·simp
theorem cutE_len(s:Str)(c:UInt8):(cutE s c).1.length≤s.length:=by
 unfold cutE;split <;> simp
def wordQ(s:Str):(Str×Str)×Int:=
 let a:=cutS s 40
 let b:=cutE a.2.1 41
 if 66<s.length then(([],[]),3)
 else if a.2.2=true/\b.2=true/\a.1.all bit=true/\b.1.all bit=true/\b.1.length≠0/\a.1.length+b.1.length≤64 then((a.1,b.1),0) else(([],[]),5)
theorem parseQ_sound(s:Str):Pure Tryz.prog 130 [.s s] (.tup [.t (wordT (wordQ s).1),.i (wordQ s).2]):=by
 by_cases h66:66<s.length
 ·rw[show wordQ s=(([],[]),3) from if_pos h66]
  refine so Tryz.func130 ?_
  repeat' (first|refine wk ?_|exact wkc|intro hc|refine wk2 ?_ ?_|fail)
  exact wkr
 ·have hs:s.length≤1000000000:=by omega
  have hq:wordQ s=if(cutS s 40).2.2=true/\(cutE (cutS s 40).2.1 41).2=true/\(cutS s 40).1.all bit=true/\(cutE (cutS s 40).2.1 41).1.all bit=true/\(cutE (cutS s 40).2.1 41).1.length≠0/\(cutS s 40).1.length+(cutE (cutS s 40).2.1 41).1.length≤64
    then(((cutS s 40).1,(cutE (cutS s 40).2.1 41).1),0) else(([],[]),5):=if_neg h66
  have c1:=cut_sound s 40 hs
  have l1:=cutS_len s 40
  generalize cutS s 40=a at hq c1 l1
  obtain⟨fr,re,is⟩:=a
  simp only at hq c1 l1
  have c2:=cutE_sound re 41 (by omega)
  have l2:=cutE_len re 41
  generalize cutE re 41=b at hq c2 l2
  obtain⟨bk,cl⟩:=b
  simp only at hq c2 l2
  have c3:=letters_sound fr (by omega)
  have c4:=letters_sound bk (by omega)
  have hW:∀ {x:Int},Pure Tryz.prog 130 [.s s] (.tup [.t (wordT ([],[])),.i 5])->wordQ s=(([],[]),5)->Pure Tryz.prog 130 [.s s] (.tup [.t (wordT (wordQ s).1),.i (wordQ s).2]):=fun h e=>by rw[e];exact h
  cases is with
  | false=>
    refine hW (x:=0) ?_ (by rw[hq,if_neg (by simp)])
    refine so Tryz.func130 ?_
    repeat' (first|refine wk ?_|exact wkc|intro hc|refine wk2 ?_ ?_|refine wv c1 ?_|refine wv c2 ?_|refine wv c3 ?_|refine wv c4 ?_|fail)
    all_goals exact wkr
  | true=>
    cases cl with
    | false=>
      refine hW (x:=0) ?_ (by rw[hq,if_neg (by simp)])
      refine so Tryz.func130 ?_
      repeat' (first|refine wk ?_|exact wkc|intro hc|refine wk2 ?_ ?_|refine wv c1 ?_|refine wv c2 ?_|refine wv c3 ?_|refine wv c4 ?_|fail)
      all_goals exact wkr
    | true=>
      cases h1:fr.all bit with
      | false=>
        rw[h1]at c3
        refine hW (x:=0) ?_ (by rw[hq,if_neg (by simp[h1])])
        refine so Tryz.func130 ?_
        repeat' (first|refine wk ?_|exact wkc|intro hc|refine wk2 ?_ ?_|refine wv c1 ?_|refine wv c2 ?_|refine wv c3 ?_|refine wv c4 ?_|fail)
        all_goals exact wkr
      | true=>
        rw[h1]at c3
        cases h2:bk.all bit with
        | false=>
          rw[h2]at c4
          refine hW (x:=0) ?_ (by rw[hq,if_neg (by simp[h2])])
          refine so Tryz.func130 ?_
          repeat' (first|refine wk ?_|exact wkc|intro hc|refine wk2 ?_ ?_|refine wv c1 ?_|refine wv c2 ?_|refine wv c3 ?_|refine wv c4 ?_|fail)
          all_goals exact wkr
        | true=>
          rw[if_pos rfl]at c3
          rw[h2,if_pos rfl]at c4
          have c5:=checkW_sound fr bk (by omega) (by omega)
          by_cases e1:bk.length=0
          ·rw[if_pos e1]at c5
           refine hW (x:=0) ?_ (by rw[hq,if_neg (by simp[e1])])
           refine so Tryz.func130 ?_
           repeat' (first|refine wk ?_|exact wkc|intro hc|refine wk2 ?_ ?_|refine wv c1 ?_|refine wv c2 ?_|refine wv c3 ?_|refine wv c4 ?_|refine wv c5 ?_|fail)
           all_goals exact wkr
          ·rw[if_neg e1]at c5
           by_cases e2:64<fr.length+bk.length
           ·rw[if_pos e2]at c5
            refine hW (x:=0) ?_ (by rw[hq,if_neg (by rintro⟨-,-,-,-,-,h⟩;omega)])
            refine so Tryz.func130 ?_
            repeat' (first|refine wk ?_|exact wkc|intro hc|refine wk2 ?_ ?_|refine wv c1 ?_|refine wv c2 ?_|refine wv c3 ?_|refine wv c4 ?_|refine wv c5 ?_|fail)
            all_goals exact wkr
           ·rw[if_neg e2]at c5
            rw[hq,if_pos ⟨rfl,rfl,h1,h2,e1,by omega⟩]
            refine so Tryz.func130 ?_
            repeat' (first|refine wk ?_|exact wkc|intro hc|refine wk2 ?_ ?_|refine wv c1 ?_|refine wv c2 ?_|refine wv c3 ?_|refine wv c4 ?_|refine wv c5 ?_|fail)
            all_goals exact wkr
theorem bit_not{c:UInt8}(h:bit c=true):c≠40/\c≠41:=by
 refine⟨fun e=>?_,fun e=>?_⟩ <;> (subst e;revert h;decide)
theorem drop_tw(p:UInt8->Bool)(l:Str):l=l.takeWhile p++l.drop (l.takeWhile p).length:=by
 conv=>lhs;rw[<-List.takeWhile_append_dropWhile (p:=p) (l:=l)]
 congr 1
 conv=>rhs;arg 2;rw[<-List.takeWhile_append_dropWhile (p:=p) (l:=l)]
 rw[List.drop_left]
theorem tw_append(p:UInt8->Bool):∀(a:Str) (c:UInt8) (b:Str),a.all p=true->p c=false->(a++c::b).takeWhile p=a
 | [],c,b,_,hc=>by simp[List.takeWhile_cons,hc]
 | x::a,c,b,h,hc=>by
   simp only[List.all_cons,Bool.and_eq_true]at h
   simp[List.takeWhile_cons,h.1,tw_append p a c b h.2 hc]
theorem tw_all(p:UInt8->Bool):∀(l:Str),(l.takeWhile p).all p=true
 | []=>rfl
 | a::l=>by
   by_cases h:p a=true
   ·simp only[List.takeWhile_cons,h,if_true,List.all_cons,Bool.true_and];exact tw_all p l
   ·simp[List.takeWhile_cons,h]
def wshape(s h l:Str):Prop:=s=h++40::(l++[41])/\h.all bit=true/\l.all bit=true/\l≠ []
theorem wordP_shape{s h l:Str}(hs:¬66<s.length)(w:wshape s h l):wordP s=((h,l),0):=by
 obtain⟨rfl,h1,h2,h3⟩:=w
 have e1:(h++40::(l++[41])).takeWhile bit=h:=tw_append bit h 40 _ h1 (by decide)
 have e2:(l++[41]).takeWhile bit=l:=tw_append bit l 41 [] h2 (by decide)
 unfold wordP
 rw[if_neg hs,e1,List.drop_left]
 simp only[e2,List.drop_left]
 rw[if_pos ⟨trivial,h3⟩]
theorem wordP_inv{s:Str}(hs:¬66<s.length):(∃h l,wshape s h l)\/wordP s=(([],[]),5):=by
 unfold wordP
 rw[if_neg hs]
 split
 ·rename_i r hr
  split
  ·rename_i h
   refine .inl ⟨s.takeWhile bit,r.takeWhile bit,?_,tw_all _ _,tw_all _ _,h.2⟩
   have e1:=drop_tw bit s
   have e2:=drop_tw bit r
   rw[hr]at e1
   rw[h.1]at e2
   rw[<-e2];exact e1
  ·exact .inr rfl
 ·exact .inr rfl
theorem wordQ_shape{s h l:Str}(hs:¬66<s.length)(w:wshape s h l):wordQ s=((h,l),0):=by
 obtain⟨rfl,h1,h2,h3⟩:=w
 have hne:∀(a:Str),a.all bit=true->a.all (· != 40)=true:=fun a ha=>List.all_eq_true.2 fun c hc=>by
  have:=(bit_not (List.all_eq_true.1 ha c hc)).1
  simpa using this
 have e1:(h++40::(l++[41])).takeWhile (· != 40)=h:=tw_append _ h 40 _ (hne h h1) (by decide)
 have e2:cutS (h++40::(l++[41])) 40=(h,l++[41],true):=by
  unfold cutS
  rw[if_pos (by simp),e1]
  have:(h++40::(l++[41])).drop (h.length+1)=l++[41]:=by
   rw[show h++40::(l++[41])=(h++[40])++(l++[41]) from by simp]
   exact List.drop_left' (by simp)
  rw[this]
 have e3:cutE (l++[41]) 41=(l,true):=by
  unfold cutE endsIn
  simp
 have e4:l.length≠0:=fun e=>h3 (List.eq_nil_of_length_eq_zero e)
 unfold wordQ
 simp only[if_neg hs,e2,e3]
 rw[if_pos]
 simp only[List.length_append,List.length_cons,List.length_nil]at hs
 exact⟨by trivial,by trivial,h1,h2,e4,by omega⟩
theorem wordQ_inv{s:Str}(hs:¬66<s.length):(∃h l,wshape s h l)\/wordQ s=(([],[]),5):=by
 unfold wordQ
 simp only[if_neg hs]
 split
 ·rename_i h
  obtain⟨h1,h2,h3,h4,h5,h6⟩:=h
  refine .inl ⟨(cutS s 40).1,(cutE (cutS s 40).2.1 41).1,?_,h3,h4,fun e=>h5 (by rw[e];rfl)⟩
  have g1:(cutE (cutS s 40).2.1 41).1++[41]=(cutS s 40).2.1:=by
   generalize (cutS s 40).2.1=r at h2⊢
   unfold cutE at h2⊢
   split
   ·rename_i he
    unfold endsIn at he
    simp only[Bool.and_eq_true,decide_eq_true_eq,beq_iff_eq]at he
    have:=List.take_append_drop (r.length-1) r
    rw[he.2]at this
    exact this
   ·rename_i he;rw[if_neg he]at h2;cases h2
  rw[g1]
  clear h2 h3 h4 h5 h6 g1
  unfold cutS at h1⊢
  split
  ·rename_i hm
   have e1:=drop_tw (· != 40) s
   have hend:∀c,s[(s.takeWhile (· != 40)).length]?=some c->c=40:=fun c hc=>by
    have:=tw_end (· != 40) s c hc
    simpa using this
   cases hd:s.drop (s.takeWhile (· != 40)).length with
   | nil=>
     rw[hd,List.append_nil]at e1
     rw[e1]at hm
     have:=List.all_eq_true.1 (tw_all (· != 40) s) 40 hm
     simp at this
   | cons c r=>
     have hx:s[(s.takeWhile (· != 40)).length]?=some c:=by
      have:=List.getElem?_drop (xs:=s) (i:=(s.takeWhile (· != 40)).length) (j:=0)
      rw[hd]at this
      simpa using this.symm
     have:=hend c hx
     subst this
     rw[<-List.tail_drop,hd,List.tail_cons,<-hd]
     exact e1
  ·rename_i hm;rw[if_neg hm]at h1;cases h1
 ·exact .inr rfl
theorem wordQ_eq(s:Str):wordQ s=wordP s:=by
 by_cases hs:66<s.length
 ·unfold wordQ wordP;rw[if_pos hs];simp[hs]
 ·rcases wordP_inv hs with ⟨h,l,w⟩|h
  ·rw[wordP_shape hs w,wordQ_shape hs w]
  ·rcases wordQ_inv hs with ⟨h',l,w⟩|h'
   ·rw[wordP_shape hs w,wordQ_shape hs w]
   ·rw[h,h']
theorem parseW_sound(s:Str):Pure Tryz.prog 130 [.s s] (.tup [.t (wordT (wordP s).1),.i (wordP s).2]):=by
 rw[<-wordQ_eq];exact parseQ_sound s
end Go.Proofs.YtjgmcnemcembmaaGreatDoor
