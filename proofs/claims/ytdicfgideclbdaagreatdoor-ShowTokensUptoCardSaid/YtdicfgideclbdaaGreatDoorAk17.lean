import Derived.Test.YtdicfgideclbdaaGreatDoorAk16
set_option maxHeartbeats 64000000
set_option linter.all false
namespace Go.Proofs.YtdicfgideclbdaaGreatDoor
open Go Go.TL
attribute [local irreducible] TR TO Then zaj RetK Sound zac Kf GG zaQ
variable {α:Type}{k:Nat}
abbrev zD:List T:=[.v (str []),.v (.int .i64 0),.v (.slice none 0 0)]
theorem zqs(c:Nat)(h1:1≤c)(h2:c≤3000000000):Sound Tryz.prog 165 [.t (.v (.slice none 0 0)),.i c] [] (fun r H'=>r= .ret (.ms 3 0 0 0)/\H'=[.cells (zaK zD c)]):=by
 refine so Tryz.func165 ?_;repeat' (first|refine wk ?_|exact wkc|refine wk2 ?_ ?_|(apply TO.zrA zaf;(iterate 4 exact rfl))|(apply TO.ztj zaf;(iterate 6 exact rfl))|(apply TO.zli zaf (c:=c) (ik':=.i64);(iterate 6 exact rfl);kernel_rfl;exact rfl;exact rfl;omega;omega;exact rfl)|(apply TO.zti zaf;(iterate 6 exact rfl))|intro hc)
 exact zwee
theorem zny:Pure Tryz.prog 165 [.t (.v (.slice none 0 0)),.i 0] (.t (.v (.slice none 0 0))):=by
 refine so Tryz.func165 ?_;repeat' (first|refine wk ?_|exact wkc|refine wk2 ?_ ?_|(apply TO.zrA zaf;(iterate 4 exact rfl))|intro hc)
 exact wkr
abbrev dls (l:List Decl):T:=.sl 3 (l.map zak)
def zbd(l:List Decl):List T:=((l.map zak).map T.cells).flatten
theorem zdU(l:List Decl):(zbd l).length=l.length*3:=by
 have:=(zbR (sz:=3) (l.map zak) (fun e he=>by obtain⟨d,_,rfl⟩:=qaL.1 he;rfl)).1
 rw[qac]at this;exact this
theorem zkg(a b:List Decl):zbd (a++b)=zbd a++zbd b:=by simp[zbd]
theorem zrB{ls:List (List α)}(h:k<ls.length):(ls.take (k+1)).flatten.length=(ls.take k).flatten.length+ls[k].length/\(ls.take (k+1)).flatten.length≤ls.flatten.length:=by
 constructor
 ·rw[qaE h,qbM,qab];simp
 ·conv=>rhs;rw[<-qaX (k+1) ls]
  rw[qbM,qab];omega
theorem zyU{ls:List (List α)}(h:k<ls.length):(ls.take (k+1)).flatten=(ls.take k).flatten++ls[k]:=by
 rw[qaE h,qbM];simp
theorem zot{ls:List (List Decl)}(h:k<ls.length):(ls.map dls)[k]?=some (dls ls[k]):=by simp[h]
theorem zg2(ls:List (List Decl))(hl:ls.length≤1000000)(hn:ls.flatten.length≤3000000000)(h1:1≤ls.flatten.length):
  Sound Tryz.prog 140 [.t (.sl 1 (ls.map dls))] [] (fun r H'=>r= .ret (.ms 3 0 0 ls.flatten.length)/\H'=[.cells ((zbd ls.flatten).map .t)]):=by
 have hml:(ls.map dls).length=ls.length:=qac _;refine so Tryz.func140 ?_;repeat' (first|refine wk ?_|exact wkc|refine wk2 ?_ ?_|intro hc)
 refine TR.zaz ls.length (fun _=>True) (fun k=>[(0,.t (.sl 1 (ls.map dls))),(3,.i ((ls.take k).flatten.length:Nat)),(9,.t (.sl 1 (ls.map dls))),(10,.i ls.length),(11,.i k)]) (fun _=>[]) trivial (fun k hlt _=>?_) (fun _=>?_) ⟨rfl,rfl,rfl,by rw[<-hml];rfl,rfl,trivial⟩
 ·obtain⟨f1,f2⟩:=zrB hlt;have hx:=zot hlt;have hm2:(ls[k].map zak).length=ls[k].length:=qac _;generalize ls[k]=a at hx f1 hm2;refine yd ?_;exact zac.zaH hlt trivial ⟨rfl,by rw[f1];simp only[qac];rfl,rfl,rfl,rfl,trivial⟩
 ·rw[qap];repeat' (first|refine wk ?_|exact wkc|refine wk2 ?_ ?_|(apply TO.zry (tl:=(List.replicate ls.flatten.length zD).flatten) (zqs ls.flatten.length h1 hn);(iterate 3 exact rfl);exact Les.refl _;exact rfl)|intro hc)
  refine TR.zaz ls.length (fun _=>True) (fun k=>[(6,.ms 3 0 0 (ls.take k).flatten.length),(25,.t (.sl 1 (ls.map dls))),(26,.i ls.length),(27,.i k)]) (fun k=>[.cells (mixC (zbd (ls.take k).flatten) zD (ls.flatten.length-(ls.take k).flatten.length))]) trivial (fun k hlt _=>?_) (fun _=>?_) ⟨rfl,rfl,by rw[<-hml];rfl,rfl,trivial⟩
  ·obtain⟨f1,f2⟩:=zrB hlt;have f3:=zyU hlt;have hx:=zot hlt;have hm2:(ls[k].map zak).length=ls[k].length:=qac _
   have hfit:0+((ls.take k).flatten.length+(ls[k].map zak).length)*3≤(mixC (zbd (ls.take k).flatten) zD (ls.flatten.length-(ls.take k).flatten.length)).length:=by
    rw[zuI,zdU,hm2];show _≤_+_*3;omega
   have hsp:[Blk.cells (mixC (zbd (ls.take k).flatten) zD (ls.flatten.length-(ls.take k).flatten.length))].set 0 (.cells (splice (mixC (zbd (ls.take k).flatten) zD (ls.flatten.length-(ls.take k).flatten.length)) (0+(ls.take k).flatten.length*3) ((((ls[k].map zak).map T.cells).flatten).map .t)))=
     [Blk.cells (mixC (zbd (ls.take (k+1)).flatten) zD (ls.flatten.length-(ls.take (k+1)).flatten.length))]:=by
    have e:=znM (zbd (ls.take k).flatten) (zbd ls[k]) zD (ls.flatten.length-(ls.take k).flatten.length) ls[k].length (0+(ls.take k).flatten.length*3) oA (by rw[zdU];omega) (zdU _);refine oJ (fun c=>[Blk.cells c]) (e.trans ?_);rw[f3,zkg,qab];congr 1;omega
   generalize hb1:(ls.take (k+1)).flatten=b1 at*;generalize (ls.take k).flatten=b0 at*;generalize ls[k]=a at*;repeat' (first|refine wk ?_|exact wkc|refine wk2 ?_ ?_|(apply TO.zrf zaf;(iterate 12 exact rfl);exact hfit;exact hsp)|intro hc)
   exact zac.zaH hlt trivial ⟨by rw[hb1,f1,<-hm2];rfl,rfl,rfl,rfl,trivial⟩ (by rw[hb1])
  ·rw[qap,qb6,zsx];refine yd ?_;exact zwee
theorem znl(l:List T)(hl:l.length≤1000000000):Pure Tryz.prog 141 [.t (.sl 3 l)] (.t (.sl 3 l)):=by
 refine so Tryz.func141 ?_;repeat' (first|refine wk ?_|fail)
 apply TO.zrU zaf (sz:=3)
 ·exact rfl
 ·exact rfl
 ·exact rfl
 ·exact rfl
 ·exact rfl
 ·intro hc;subst hc;refine yd ?_;exact wkr
 ·refine TO.nil ?_;simp only[Kf];repeat' (first|(apply TO.zyP zaf;(iterate 5 exact rfl))|refine wg2 ?_ ?_|refine wg ?_|exact wgc|intro hc)
  exact wkr
theorem zfP(ls:List (List Decl))(hl:ls.length≤1000000)(h0:ls.flatten=[]):
  Pure Tryz.prog 140 [.t (.sl 1 (ls.map dls))] (.t (.v (.slice none 0 0))):=by
 have hml:(ls.map dls).length=ls.length:=qac _;have hall:∀k (h:k<ls.length),ls[k]=[]:=fun k h=>List.flatten_eq_nil_iff.1 h0 _ (qak h)
 refine so Tryz.func140 ?_;repeat' (first|refine wk ?_|exact wkc|refine wk2 ?_ ?_|intro hc)
 refine TR.zaz ls.length (fun _=>True) (fun k=>[(0,.t (.sl 1 (ls.map dls))),(3,.i 0),(9,.t (.sl 1 (ls.map dls))),(10,.i ls.length),(11,.i k)]) (fun _=>[]) trivial (fun k hlt _=>?_) (fun _=>?_) ⟨rfl,rfl,rfl,by rw[<-hml];rfl,rfl,trivial⟩
 ·have hx:=zot hlt;rw[hall k hlt]at hx;change _=some (T.sl 3 [])at hx;refine yd ?_;exact zac.zaH hlt trivial ⟨rfl,rfl,rfl,rfl,rfl,trivial⟩
 ·repeat' (first|refine wk ?_|exact wkc|refine wk2 ?_ ?_|refine wv zny ?_|intro hc)
  refine TR.zaz ls.length (fun _=>True) (fun k=>[(6,.t (.v (.slice none 0 0))),(25,.t (.sl 1 (ls.map dls))),(26,.i ls.length),(27,.i k)]) (fun _=>[]) trivial (fun k hlt _=>?_) (fun _=>?_) ⟨rfl,rfl,by rw[<-hml];rfl,rfl,trivial⟩
  ·have hx:=zot hlt;rw[hall k hlt]at hx;change _=some (T.sl 3 [])at hx;repeat' (first|refine wk ?_|exact wkc|refine wk2 ?_ ?_|(apply TO.zm8 zaf;(iterate 11 exact rfl))|intro hc)
   exact zac.zaH hlt trivial ⟨rfl,rfl,rfl,rfl,trivial⟩
  ·refine yd ?_;exact wkr
theorem zsu{P:Program}{n:Nat}{env:Env}{H:Heap}{K:TK}{all:Array Oper}{rest:List Oper}{tab:Tab}{d:Nat}{ty:TypeId}{pos:String}{aft:Array Edge}{q:Bool}(hT:zas P tab){t:TypeId}{i:TyI}{x:Operand}{cs es:List SV}{id off sz:Nat}(hd:Nat.ble (d+1) n=true)(ht:tab.get t=some i)(hk:i.k.agg=true)
  (hx:env.val x=some (.ref id off))(hH:H[id]?=some (.cells cs))(hs:i.size=sz)(hel:(cs.drop off).take sz=es)(hc:off+sz≤cs.length)(k:TO q P n all rest ((d,.ag es)::env) H K):TO q P n all (⟨some d,.load t x,ty,pos,aft,none⟩::rest) env H K:=by
 subst hs;subst hel;exact TO.zeR hT hd ht hk hx hH hc k
def zdh(n:Nod):List Decl:=n.ins++(n.outs++(n.locals++[]))
theorem zq4(n:Nod)(hn:zyB n)(hck:∀d∈zdh n,d.clock.length≤100000000):Pure Tryz.prog 102 [.t (.ag (nodC n))] (.t (zaw (zdh n))):=by
 have hi:=hn.ins;have ho:=hn.outs;have hl:=hn.locals;have hlen:(zdh n).length=n.ins.length+n.outs.length+n.locals.length:=by simp[zdh];omega
 by_cases h0:zdh n=[]
 ·have hc:=zfP [n.ins,n.outs,n.locals] oC h0;rw[h0];unfold nodC;refine so Tryz.func102 ?_;repeat' (first|refine wu ?_|exact wkc|refine wk2 ?_ ?_|refine wv hc ?_|intro hc)
  refine TR.zaz 0 (fun _=>True) (fun k=>[(3,.t (.v (.slice none 0 0))),(14,.t (.v (.slice none 0 0))),(15,.i 0),(16,.i k)]) (fun _=>[]) trivial (fun k hlt _=>?_) (fun _=>?_) ⟨rfl,rfl,rfl,rfl,trivial⟩
  ·omega
  ·refine ya ?_;exact wkr
 ·have h1:1≤(zdh n).length:=by
   cases hv:zdh n with
   | nil=>exact oI hv h0
   | cons a l=>simp
  have hc:=zg2 [n.ins,n.outs,n.locals] oC (show(zdh n).length≤_ by omega) h1;have hb:(zdh n).length≤300000000:=oA
  clear hi ho hl hlen h0;change Sound Tryz.prog _ _ _ (fun r H'=>r= .ret (.ms 3 0 0 (zdh n).length)/\H'=[.cells ((zbd (zdh n)).map .t)])at hc;generalize zdh n=L at hc h1 hb hck⊢;unfold nodC;refine so Tryz.func102 ?_;repeat' (first|refine wu ?_|exact wkc|refine wk2 ?_ ?_|(apply TO.zry (tl:=zbd L) hc;(iterate 3 exact rfl);exact Les.refl _;exact rfl)|intro hc)
  have hcl:((zbd L).map SV.t).length=L.length*3:=by rw[qac,zdU]
  refine TR.zaz L.length (fun _=>True) (fun k=>[(3,.ms 3 0 0 L.length),(14,.ms 3 0 0 L.length),(15,.i L.length),(16,.i k)]) (fun _=>[.cells ((zbd L).map .t)]) trivial (fun k hlt _=>?_) (fun _=>?_) ⟨rfl,rfl,rfl,rfl,trivial⟩
  ·have hft:=zr6 (sz:=3) (L.map zak) (fun e he=>by obtain⟨d,_,rfl⟩:=qaL.1 he;rfl) k (by simpa using hlt)
   have hld:(((zbd L).map SV.t).drop (0+k*3)).take 3=[.t (.s L[k].name),.t (T.n L[k].ty),.t (.sl 3 (L[k].clock.map onT))]:=by
    rw[<-List.map_drop,<-qbB,qaV];unfold zbd;rw[hft];simp[zak,T.cells]
   have hll:0+k*3+3≤((zbd L).map SV.t).length:=by rw[hcl];omega
   have hll2:0+k*3+2<((zbd L).map SV.t).length:=by rw[hcl];omega
   have hcl2:=znl (L[k].clock.map onT) (by have:=hck _ (qak hlt);rw[qac];omega);generalize L[k]=d at hld hcl2
   have hg2:((zbd L).map SV.t)[0+k*3+2]?=some (.t (.sl 3 (d.clock.map onT))):=by
    have:=oJ (fun l:List SV=>l[2]?) hld
    simp only[qa6,qbb]at this;simpa using this
   have hset:[Blk.cells ((zbd L).map SV.t),Blk.cells [.t (.s d.name),.t (T.n d.ty),.t (.sl 3 (d.clock.map onT))]].set 0 (.cells (((zbd L).map SV.t).set (0+k*3+2) (.t (.sl 3 (d.clock.map onT)))))=[Blk.cells ((zbd L).map SV.t),Blk.cells [.t (.s d.name),.t (T.n d.ty),.t (.sl 3 (d.clock.map onT))]]:=by
    obtain⟨g1,g2⟩:=qaa.1 hg2
    have:=@qbv _ ((zbd L).map SV.t) _ g1
    rw[g2]at this;rw[this];rfl
   repeat' (first|refine wk ?_|exact wkc|refine wk2 ?_ ?_|refine wv hcl2 ?_|refine zqh ?_|(apply zsu zaf;(iterate 6 exact rfl);exact hld;exact hll)|(apply TO.zmG zaf;(iterate 7 exact rfl);exact hll2;exact hset)|intro hc)
   exact zac.zzE 1 hlt trivial rfl rfl rfl (zk9 1 _) rfl
  ·refine TR.freeze 3 3 0 _ (es:=L.map zak) rfl rfl rfl oC (fun e he=>by obtain⟨d,_,rfl⟩:=qaL.1 he;rfl) rfl rfl ?_;refine ya ?_;exact wkr
theorem zab{α:Type}{f:α->Int}:∀ {l:List α},zad f l=0->∀x∈l,f x=0
 | [],_,x,hx=>by cases hx
 | y::l,h,x,hx=>by
   unfold zad at h;by_cases hy:f y=0
   ·rcases qa5.1 hx with rfl|hx
    ·exact hy
    ·exact zab (l:=l) (by simpa [hy]using h) x hx
   ·simp[hy]at h
theorem zp4{es:List En}{e:Ex}(h:zbi es e=0):∀x∈flat e,Arity x:=by
 unfold zbi at h;split at h
 ·rename_i hc;unfold zeC at hc;split at hc
  ·cases hc
  ·exact fun x hx=>zt4 (zab hc x hx)
 ·rename_i hc;exact oI h hc
end Go.Proofs.YtdicfgideclbdaaGreatDoor
