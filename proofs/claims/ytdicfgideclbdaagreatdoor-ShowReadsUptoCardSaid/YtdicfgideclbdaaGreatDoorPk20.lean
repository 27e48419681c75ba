import Derived.Test.YtdicfgideclbdaaGreatDoorPk12
import Derived.Test.YtdicfgideclbdaaGreatDoorPk19
set_option maxHeartbeats 64000000
set_option linter.all false
namespace Go.Proofs.YtdicfgideclbdaaGreatDoor
open Go Go.TL
attribute [local irreducible] TR TO Then zal RetK Sound zab Kf GG zaR
variable {α:Type}{k:Nat}
abbrev zD:List T:=[.v (str []),.v (.int .i64 0),.v (.slice none 0 0)]
theorem zqo(c:Nat)(h1:1≤c)(h2:c≤3000000000):Sound Tryz.prog 165 [.t (.v (.slice none 0 0)),.i c] [] (fun r H'=>r= .ret (.ms 3 0 0 0)/\H'=[.cells (zaK zD c)]):=by
 refine so Tryz.func165 ?_;repeat' (first|refine wk ?_|exact wkc|refine wk2 ?_ ?_|(apply TO.zrx zaf;(iterate 4 exact rfl))|(apply TO.ztn zaf;(iterate 6 exact rfl))|(apply TO.zk5 zaf (c:=c) (ik':=.i64);(iterate 6 exact rfl);kernel_rfl;exact rfl;exact rfl;omega;omega;exact rfl)|(apply TO.ztm zaf;(iterate 6 exact rfl))|intro hc)
 exact zwec
theorem znr:Pure Tryz.prog 165 [.t (.v (.slice none 0 0)),.i 0] (.t (.v (.slice none 0 0))):=by
 refine so Tryz.func165 ?_;repeat' (first|refine wk ?_|exact wkc|refine wk2 ?_ ?_|(apply TO.zrx zaf;(iterate 4 exact rfl))|intro hc)
 exact wkr
abbrev dls (l:List Decl):T:=.sl 3 (l.map zag)
def zbb(l:List Decl):List T:=((l.map zag).map T.cells).flatten
theorem zdP(l:List Decl):(zbb l).length=l.length*3:=by
 have:=(zbP (sz:=3) (l.map zag) (fun e he=>by obtain⟨d,_,rfl⟩:=qaL.1 he;rfl)).1
 rw[qac]at this;exact this
theorem zjZ(a b:List Decl):zbb (a++b)=zbb a++zbb b:=by simp[zbb]
theorem zry{ls:List (List α)}(h:k<ls.length):(ls.take (k+1)).flatten.length=(ls.take k).flatten.length+ls[k].length/\(ls.take (k+1)).flatten.length≤ls.flatten.length:=by
 constructor
 ·rw[qaE h,qbL,qab];simp
 ·conv=>rhs;rw[<-qaY (k+1) ls]
  rw[qbL,qab];omega
theorem zy6{ls:List (List α)}(h:k<ls.length):(ls.take (k+1)).flatten=(ls.take k).flatten++ls[k]:=by
 rw[qaE h,qbL];simp
theorem zoq{ls:List (List Decl)}(h:k<ls.length):(ls.map dls)[k]?=some (dls ls[k]):=by simp[h]
theorem zgV(ls:List (List Decl))(hl:ls.length≤1000000)(hn:ls.flatten.length≤3000000000)(h1:1≤ls.flatten.length):
  Sound Tryz.prog 140 [.t (.sl 1 (ls.map dls))] [] (fun r H'=>r= .ret (.ms 3 0 0 ls.flatten.length)/\H'=[.cells ((zbb ls.flatten).map .t)]):=by
 have hml:(ls.map dls).length=ls.length:=qac _;refine so Tryz.func140 ?_;repeat' (first|refine wk ?_|exact wkc|refine wk2 ?_ ?_|intro hc)
 refine TR.zay ls.length (fun _=>True) (fun k=>[(0,.t (.sl 1 (ls.map dls))),(3,.i ((ls.take k).flatten.length:Nat)),(9,.t (.sl 1 (ls.map dls))),(10,.i ls.length),(11,.i k)]) (fun _=>[]) trivial (fun k hlt _=>?_) (fun _=>?_) ⟨rfl,rfl,rfl,by rw[<-hml];rfl,rfl,trivial⟩
 ·obtain⟨f1,f2⟩:=zry hlt;have hx:=zoq hlt;have hm2:(ls[k].map zag).length=ls[k].length:=qac _;generalize ls[k]=a at hx f1 hm2;refine yd ?_;exact zab.zaD hlt trivial ⟨rfl,by rw[f1];simp only[qac];rfl,rfl,rfl,rfl,trivial⟩
 ·rw[qap];repeat' (first|refine wk ?_|exact wkc|refine wk2 ?_ ?_|(apply TO.zrv (tl:=(List.replicate ls.flatten.length zD).flatten) (zqo ls.flatten.length h1 hn);(iterate 3 exact rfl);exact Les.refl _;exact rfl)|intro hc)
  refine TR.zay ls.length (fun _=>True) (fun k=>[(6,.ms 3 0 0 (ls.take k).flatten.length),(25,.t (.sl 1 (ls.map dls))),(26,.i ls.length),(27,.i k)]) (fun k=>[.cells (mixC (zbb (ls.take k).flatten) zD (ls.flatten.length-(ls.take k).flatten.length))]) trivial (fun k hlt _=>?_) (fun _=>?_) ⟨rfl,rfl,by rw[<-hml];rfl,rfl,trivial⟩
  ·obtain⟨f1,f2⟩:=zry hlt;have f3:=zy6 hlt;have hx:=zoq hlt;have hm2:(ls[k].map zag).length=ls[k].length:=qac _
   have hfit:0+((ls.take k).flatten.length+(ls[k].map zag).length)*3≤(mixC (zbb (ls.take k).flatten) zD (ls.flatten.length-(ls.take k).flatten.length)).length:=by
    rw[zuM,zdP,hm2];show _≤_+_*3;omega
   have hsp:[Blk.cells (mixC (zbb (ls.take k).flatten) zD (ls.flatten.length-(ls.take k).flatten.length))].set 0 (.cells (splice (mixC (zbb (ls.take k).flatten) zD (ls.flatten.length-(ls.take k).flatten.length)) (0+(ls.take k).flatten.length*3) ((((ls[k].map zag).map T.cells).flatten).map .t)))=
     [Blk.cells (mixC (zbb (ls.take (k+1)).flatten) zD (ls.flatten.length-(ls.take (k+1)).flatten.length))]:=by
    have e:=znF (zbb (ls.take k).flatten) (zbb ls[k]) zD (ls.flatten.length-(ls.take k).flatten.length) ls[k].length (0+(ls.take k).flatten.length*3) oA (by rw[zdP];omega) (zdP _);refine oJ (fun c=>[Blk.cells c]) (e.trans ?_);rw[f3,zjZ,qab];congr 1;omega
   generalize hb1:(ls.take (k+1)).flatten=b1 at*;generalize (ls.take k).flatten=b0 at*;generalize ls[k]=a at*;repeat' (first|refine wk ?_|exact wkc|refine wk2 ?_ ?_|(apply TO.zrc zaf;(iterate 12 exact rfl);exact hfit;exact hsp)|intro hc)
   exact zab.zaD hlt trivial ⟨by rw[hb1,f1,<-hm2];rfl,rfl,rfl,rfl,trivial⟩ (by rw[hb1])
  ·rw[qap,qb7,zsw];refine yd ?_;exact zwec
theorem znc(l:List T)(hl:l.length≤1000000000):Pure Tryz.prog 141 [.t (.sl 3 l)] (.t (.sl 3 l)):=by
 refine so Tryz.func141 ?_;repeat' (first|refine wk ?_|fail)
 apply TO.zrT zaf (sz:=3)
 ·exact rfl
 ·exact rfl
 ·exact rfl
 ·exact rfl
 ·exact rfl
 ·intro hc;subst hc;refine yd ?_;exact wkr
 ·refine TO.nil ?_;simp only[Kf];repeat' (first|(apply TO.zy1 zaf;(iterate 5 exact rfl))|refine wg2 ?_ ?_|refine wg ?_|exact wgc|intro hc)
  exact wkr
theorem zfJ(ls:List (List Decl))(hl:ls.length≤1000000)(h0:ls.flatten=[]):
  Pure Tryz.prog 140 [.t (.sl 1 (ls.map dls))] (.t (.v (.slice none 0 0))):=by
 have hml:(ls.map dls).length=ls.length:=qac _;have hall:∀k (h:k<ls.length),ls[k]=[]:=fun k h=>List.flatten_eq_nil_iff.1 h0 _ (qai h)
 refine so Tryz.func140 ?_;repeat' (first|refine wk ?_|exact wkc|refine wk2 ?_ ?_|intro hc)
 refine TR.zay ls.length (fun _=>True) (fun k=>[(0,.t (.sl 1 (ls.map dls))),(3,.i 0),(9,.t (.sl 1 (ls.map dls))),(10,.i ls.length),(11,.i k)]) (fun _=>[]) trivial (fun k hlt _=>?_) (fun _=>?_) ⟨rfl,rfl,rfl,by rw[<-hml];rfl,rfl,trivial⟩
 ·have hx:=zoq hlt;rw[hall k hlt]at hx;change _=some (T.sl 3 [])at hx;refine yd ?_;exact zab.zaD hlt trivial ⟨rfl,rfl,rfl,rfl,rfl,trivial⟩
 ·repeat' (first|refine wk ?_|exact wkc|refine wk2 ?_ ?_|refine wv znr ?_|intro hc)
  refine TR.zay ls.length (fun _=>True) (fun k=>[(6,.t (.v (.slice none 0 0))),(25,.t (.sl 1 (ls.map dls))),(26,.i ls.length),(27,.i k)]) (fun _=>[]) trivial (fun k hlt _=>?_) (fun _=>?_) ⟨rfl,rfl,by rw[<-hml];rfl,rfl,trivial⟩
  ·have hx:=zoq hlt;rw[hall k hlt]at hx;change _=some (T.sl 3 [])at hx;repeat' (first|refine wk ?_|exact wkc|refine wk2 ?_ ?_|(apply TO.zmZ zaf;(iterate 11 exact rfl))|intro hc)
   exact zab.zaD hlt trivial ⟨rfl,rfl,rfl,rfl,trivial⟩
  ·refine yd ?_;exact wkr
theorem zst{P:Program}{n:Nat}{env:Env}{H:Heap}{K:TK}{all:Array Oper}{rest:List Oper}{tab:Tab}{d:Nat}{ty:TypeId}{pos:String}{aft:Array Edge}{q:Bool}(hT:zas P tab){t:TypeId}{i:TyI}{x:Operand}{cs es:List SV}{id off sz:Nat}(hd:Nat.ble (d+1) n=true)(ht:tab.get t=some i)(hk:i.k.agg=true)
  (hx:env.val x=some (.ref id off))(hH:H[id]?=some (.cells cs))(hs:i.size=sz)(hel:(cs.drop off).take sz=es)(hc:off+sz≤cs.length)(k:TO q P n all rest ((d,.ag es)::env) H K):TO q P n all (⟨some d,.load t x,ty,pos,aft,none⟩::rest) env H K:=by
 subst hs;subst hel;exact TO.zeK hT hd ht hk hx hH hc k
def zdd(n:Nod):List Decl:=n.ins++(n.outs++(n.locals++[]))
theorem zq2(n:Nod)(hn:zyO n)(hck:∀d∈zdd n,d.clock.length≤100000000):Pure Tryz.prog 102 [.t (.ag (nodC n))] (.t (zav (zdd n))):=by
 have hi:=hn.ins;have ho:=hn.outs;have hl:=hn.locals;have hlen:(zdd n).length=n.ins.length+n.outs.length+n.locals.length:=by simp[zdd];omega
 by_cases h0:zdd n=[]
 ·have hc:=zfJ [n.ins,n.outs,n.locals] oC h0;rw[h0];unfold nodC;refine so Tryz.func102 ?_;repeat' (first|refine wu ?_|exact wkc|refine wk2 ?_ ?_|refine wv hc ?_|intro hc)
  refine TR.zay 0 (fun _=>True) (fun k=>[(3,.t (.v (.slice none 0 0))),(14,.t (.v (.slice none 0 0))),(15,.i 0),(16,.i k)]) (fun _=>[]) trivial (fun k hlt _=>?_) (fun _=>?_) ⟨rfl,rfl,rfl,rfl,trivial⟩
  ·omega
  ·refine ya ?_;exact wkr
 ·have h1:1≤(zdd n).length:=by
   cases hv:zdd n with
   | nil=>exact oI hv h0
   | cons a l=>simp
  have hc:=zgV [n.ins,n.outs,n.locals] oC (show(zdd n).length≤_ by omega) h1;have hb:(zdd n).length≤300000000:=oA
  clear hi ho hl hlen h0;change Sound Tryz.prog _ _ _ (fun r H'=>r= .ret (.ms 3 0 0 (zdd n).length)/\H'=[.cells ((zbb (zdd n)).map .t)])at hc;generalize zdd n=L at hc h1 hb hck⊢;unfold nodC;refine so Tryz.func102 ?_;repeat' (first|refine wu ?_|exact wkc|refine wk2 ?_ ?_|(apply TO.zrv (tl:=zbb L) hc;(iterate 3 exact rfl);exact Les.refl _;exact rfl)|intro hc)
  have hcl:((zbb L).map SV.t).length=L.length*3:=by rw[qac,zdP]
  refine TR.zay L.length (fun _=>True) (fun k=>[(3,.ms 3 0 0 L.length),(14,.ms 3 0 0 L.length),(15,.i L.length),(16,.i k)]) (fun _=>[.cells ((zbb L).map .t)]) trivial (fun k hlt _=>?_) (fun _=>?_) ⟨rfl,rfl,rfl,rfl,trivial⟩
  ·have hft:=zr5 (sz:=3) (L.map zag) (fun e he=>by obtain⟨d,_,rfl⟩:=qaL.1 he;rfl) k (by simpa using hlt)
   have hld:(((zbb L).map SV.t).drop (0+k*3)).take 3=[.t (.s L[k].name),.t (T.n L[k].ty),.t (.sl 3 (L[k].clock.map onT))]:=by
    rw[<-List.map_drop,<-qbB,qaV];unfold zbb;rw[hft];simp[zag,T.cells]
   have hll:0+k*3+3≤((zbb L).map SV.t).length:=by rw[hcl];omega
   have hll2:0+k*3+2<((zbb L).map SV.t).length:=by rw[hcl];omega
   have hcl2:=znc (L[k].clock.map onT) (by have:=hck _ (qai hlt);rw[qac];omega);generalize L[k]=d at hld hcl2
   have hg2:((zbb L).map SV.t)[0+k*3+2]?=some (.t (.sl 3 (d.clock.map onT))):=by
    have:=oJ (fun l:List SV=>l[2]?) hld
    simp only[qa4,qbb]at this;simpa using this
   have hset:[Blk.cells ((zbb L).map SV.t),Blk.cells [.t (.s d.name),.t (T.n d.ty),.t (.sl 3 (d.clock.map onT))]].set 0 (.cells (((zbb L).map SV.t).set (0+k*3+2) (.t (.sl 3 (d.clock.map onT)))))=[Blk.cells ((zbb L).map SV.t),Blk.cells [.t (.s d.name),.t (T.n d.ty),.t (.sl 3 (d.clock.map onT))]]:=by
    obtain⟨g1,g2⟩:=qaa.1 hg2
    have:=@qbv _ ((zbb L).map SV.t) _ g1
    rw[g2]at this;rw[this];rfl
   repeat' (first|refine wk ?_|exact wkc|refine wk2 ?_ ?_|refine wv hcl2 ?_|refine zqh ?_|(apply zst zaf;(iterate 6 exact rfl);exact hld;exact hll)|(apply TO.zmz zaf;(iterate 7 exact rfl);exact hll2;exact hset)|intro hc)
   exact zab.zzP 1 hlt trivial rfl rfl rfl (zkW 1 _) rfl
  ·refine TR.freeze 3 3 0 _ (es:=L.map zag) rfl rfl rfl oC (fun e he=>by obtain⟨d,_,rfl⟩:=qaL.1 he;rfl) rfl rfl ?_;refine ya ?_;exact wkr
theorem zac{α:Type}{f:α->Int}:∀ {l:List α},zad f l=0->∀x∈l,f x=0
 | [],_,x,hx=>by cases hx
 | y::l,h,x,hx=>by
   unfold zad at h;by_cases hy:f y=0
   ·rcases qa9.1 hx with rfl|hx
    ·exact hy
    ·exact zac (l:=l) (by simpa [hy]using h) x hx
   ·simp[hy]at h
theorem zpZ{es:List En}{e:Ex}(h:zbg es e=0):∀x∈flat e,Arity x:=by
 unfold zbg at h;split at h
 ·rename_i hc;unfold zev at hc;split at hc
  ·cases hc
  ·exact fun x hx=>zt7 (zac hc x hx)
 ·rename_i hc;exact oI h hc
end Go.Proofs.YtdicfgideclbdaaGreatDoor
