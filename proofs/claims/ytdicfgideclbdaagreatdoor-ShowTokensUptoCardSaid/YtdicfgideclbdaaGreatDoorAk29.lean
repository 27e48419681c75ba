import Derived.Test.YtdicfgideclbdaaGreatDoorAk21
set_option maxHeartbeats 64000000
namespace Go.Proofs.YtdicfgideclbdaaGreatDoor
open Go Go.TL Go.RowKit
theorem zt7(Hc:Heap)(ib ir off:Nat)(cs:List SV)(l:Str)(hl:l.length≤1000000000)(hc:Hc[ib]?=some (.cells cs))(hrw:Hc[ir]?=some (.row 5 (za6 l)))(h1:cs[off+1]?=some (.rw ir l.length)):
  Sound Tryz.prog 23 [.ref ib off] Hc (fun r _=>r= .ret (.s l)):=by
 refine⟨⟨_,Tryz.func23,oD,rfl⟩,fun m vs hH hm ha=>?_⟩;obtain⟨hs,ha⟩:=ha
 obtain⟨x,rfl⟩:∃x,vs= #[x]:=by
  match vs,hs with
  | ⟨[x]⟩,_=>exact⟨x,rfl⟩
 have hx:=ha 0 _ x rfl rfl;cases hx with
 | ref _ _ p hp hn=>
 have hH0:m.H[ib]?=some (.cells cs):=by rw[hH];exact hc
 have hH1:m.H[ir]?=some (.row 5 (za6 l)):=by rw[hH];exact hrw
 obtain⟨b1,b2,b3⟩:=hm.blk ib p _ hp hH0;obtain⟨y,hy,_,hr⟩:=b3 _ _ h1;cases hr with
 | rw _ _ _ p1 hp1 _ ho=>
 obtain⟨_,hh⟩:=ho _ (by rw[hH1];rfl);obtain⟨ad,cap,rfl,hlc,hlo,hhi,had⟩:=hh (zaE l).symm;obtain⟨⟨_,r2,r3⟩,r4,r5⟩:=hm.blk ir p1 _ hp1 hH1;rw[zaE]at r2
 have same:∀(w':World),w'=m.w.drew->l=[]->∃(m':M) (r:Res),m'.w=w'/\Step m m'/\HRel m'/\zbZ m' r (.returned (.string ⟨#[]⟩))/\r= .ret (.s l):=by
  rintro w' rfl rfl;obtain⟨s,hm'⟩:=zej hm (zjF m.w);exact⟨_,.ret (.s []),rfl,s,hm',.t _ _ (.v _),rfl⟩
 by_cases h0:l=[]
 ·exact zwh
 ·have hpos:0<l.length:=qbf.2 h0;cases ad with
  | none=>
    simp only at had;omega
  | some a=>
    simp only at had;obtain⟨rfl,hc0⟩:=had;refine Calls.mono (zgY p.b (p.lo+off) p1.b cap p1.hi l h0 m.w hy hlc oA (r3 oA) oA (fun j c hj=>?_)) ?_
    ·exact zwdn
    ·rintro e w' ⟨rfl,rfl⟩;obtain⟨s,hm'⟩:=zpA (w':=m.w.drew.freeze ⟨p1.b,0,none⟩ l.length) (k:=l.length) hm hp1 hH1 (by unfold World.freeze;split <;> rfl) (by unfold World.freeze;split <;> rfl) (by unfold World.freeze;split <;> rfl) (by unfold World.freeze;split <;> rfl) r2;exact⟨_,.ret (.s l),rfl,s,hm',.t _ _ (.v _),rfl⟩
end Go.Proofs.YtdicfgideclbdaaGreatDoor
