/- The text of a group: the plain law. -/
import Derived.Test.YtadpelkpdaohnaaGreatDoorZPText
namespace Go.Proofs.YtadpelkpdaohnaaGreatDoor.En
open Go
theorem pV (l:List Int) (hl:l.length<=maxLen): ∃d:ByteArray,gr l=some (d,())/\fiFormatServers l=some (d,())/\d.size<=10:=by
 unfold gr fiFormatServers;rcases mt l hl with ⟨g1,g2,ha⟩| ⟨g1,g2⟩
 ·have h5:=ha.len;simp only[g1,g2,af,bq,en,ka];by_cases h0: (l.length:Int)=0
  ·simp only[if_pos h0];exact⟨_,rfl,rfl,by decide⟩
  ·simp only[if_neg h0]
   obtain⟨d,d1,e1,e2⟩:=GI (B1:=fJ) (B2:=biFormatServers_7) (β:=ByteArray) l.length (fun k d=>((l,d,(k:Int),()),(),())) (fun k d=>((d,l,(l.length:Int),(k:Int),()),(),())) (fun k d=>d.size<=2*k) (fun d=>((d,()),(),())) (fun d=>((d,()),(),()))
    (fun d _=>by simp only[fJ,biFormatServers_7,dH];exact⟨if_neg (by omega),if_neg (by omega)⟩)
    (fun k d hk hd=>by
      have c1: (k:Int)< (l.length:Int):=by omega
      have c2: (0:Int)<=(k:Int):=by omega
      have hz:=(ha k hk).1;obtain⟨a,a1,a2,a3⟩:=Jl (a:=l[k]) (by omega) (by omega);refine⟨d++a,?_⟩;have hs:d.size+a.size<=2 ^ 40:=by omega
      simp only[fJ,biFormatServers_7,dH,dX,if_pos c1,if_pos c2,aA,ah hk,af,a1,a2,if_pos hs,dS hl hk];exact⟨trivial,trivial,by rw[ByteArray.size_append]; omega⟩)
    ByteArray.empty (by decide)
   rw[show mM ((l,ByteArray.empty,0,()),(),())=_ from e1,show liFormatServers_7 ((ByteArray.empty,l,(l.length:Int),0,()),(),())=_ from e2];exact⟨d,rfl,rfl,by omega⟩
 ·simp only[g1,g2,af,Bool.not_false,eu];exact⟨_,rfl,rfl,by decide⟩
theorem xT (c:dM) (h:gE maxLen c) (hv:eg c=some (true,())): ∃d:ByteArray,gV c=some (d,())/\hZ c=some (d,())/\d.size<=40:=by
 obtain⟨v,v1,v2⟩:=kZ c h;rw[hv] at v1;simp only[ae,al,and_true] at v1;subst v1;obtain⟨f1,f2,f3,f4,f5,_⟩:=rf h hv
 have hp:0<=c.primary/\c.primary<=4:=by obtain⟨k,hk,e⟩:=aM f3;rw[<-e];exact (f1 k hk).1
 obtain⟨a,a1,a2,a3⟩:=Jl (a:=c.epoch) (by omega) (by omega);obtain⟨b,b1,b2,b3⟩:=Jl (a:=c.primary) (by omega) (by omega);obtain⟨r,r1,r2,r3⟩:=pV c.replicas h.1;obtain⟨w,w1,w2,w3⟩:=pV c.witnesses h.2;have hz: ∀z:ByteArray,z.data.toList.length=z.size:=fun z=>b7
 have hS: ∃t:ByteArray,gV c=some (t,())/\t.data.toList=a.data.toList++ [32] ++b.data.toList++ [32] ++r.data.toList++ [32] ++w.data.toList:=by unfold gV;simp only[hv,a1,b1,r1,w1,af,bq,en];simp (disch:=(simp only[ByteArray.size_append,Ad,aY,bJ]; omega)) only[Ja];refine⟨_,rfl,?_⟩;simp only[ByteArray.toList_data_append]
 have hI: ∃t:ByteArray,hZ c=some (t,())/\t.data.toList=a.data.toList++ [32] ++b.data.toList++ [32] ++r.data.toList++ [32] ++w.data.toList:=by
  unfold hZ;simp only[v2,a2,b2,r2,w2,af,bq,en]
  have hJ:Lib.join ([a,b,r,w].map (·.data.toList)) [32] =a.data.toList++ [32] ++b.data.toList++ [32] ++r.data.toList++ [32] ++w.data.toList:=by simp only[Lib.join,List.intercalate,List.intersperse,aP,cb,List.flatten_cons,List.flatten_nil,aR,b6,bA,bw]
  have hn: (a.data.toList++ [32] ++b.data.toList++ [32] ++r.data.toList++ [32] ++w.data.toList).length<=1048576:=by simp only[bn,aY,bJ,hz];omega
  unfold fstJoin;rw[hJ,if_pos ⟨hn,by simp only[aY,bJ]; omega⟩];exact⟨_,rfl,rfl⟩
 obtain⟨t,t1,t2⟩:=hS;obtain⟨u,u1,u2⟩:=hI;have :u=t:=ByteArray.ext (Array.toList_inj.1 (u2.trans t2.symm));subst this;refine⟨u,t1,u1,?_⟩;rw[<-hz u,u2];simp only[bn,aY,bJ,hz];omega
theorem Dr (x:ek) (ok:ol 1048576 x):sC (kS x) (kV x):=by
 obtain⟨v,v1,v2⟩:=rd x ok;unfold kS kV;simp only[v1,v2,af];cases v with
 |false=>exact⟨_,rfl,rfl⟩
 |true=>
  have vc:=xO ok v1;obtain⟨c,d,c1,c2,c3,_,c5,_⟩:=oh x ok v1;simp only[c1,c2,af,bq,en];cases d with
  |false=>exact⟨_,rfl,rfl⟩
  |true=>
   obtain⟨f,f1,f2,f3⟩:=xT c c3 (c5 rfl).1;have hml:=kA ok.2.2.1
   have h20:x.master.configs.length<=20:=by
    obtain⟨g1,_⟩:=xN hml vc.ml;rcases ba x.master.configs.length with h0|h0
    ·omega
    ·have hk:x.master.configs.length-1<x.master.configs.length:=by omega
     obtain⟨q1,q2⟩:=g1 _ hk;have:=(rf (hml.2 _ (bF hk)) q1).2.2.2.2.1;omega
   obtain⟨n,n1,n2,n3⟩:=Jl (a:=(x.master.configs.length:Int)) (by omega) (by omega);obtain⟨b,b1,b2⟩:=Dp x ok;obtain⟨m,m1,m2,m3⟩:=mark b ⟨⟨[115,101,114,118,105,110,103]⟩⟩ ⟨⟨[119,97,105,116,105,110,103]⟩⟩ (by decide) (by decide);simp only[bq,en,f1,f2,n1,n2,b1,b2,m1,m2,af];simp (disch:=(simp only[ByteArray.size_append,Ad,aY,bJ]; omega)) only[Ja];exact⟨_,rfl,rfl⟩
theorem Ds (x:ek) (h:ol maxLen x):ir x=some (true,()):=by
 unfold ir;obtain⟨n,g1,g2⟩:=I5 x h;simp only[g1,af,dH];split
 ·rfl
 ·obtain⟨ok,ht,_⟩:=g2 (by omega);obtain⟨a,s1,s2⟩:=Dr x ok;simp only[Dg x ok,s1,s2,af,H8 rfl,uT x ok,bq,en]
end Go.Proofs.YtadpelkpdaohnaaGreatDoor.En
