/- The text of a group: the plain law. -/
import Derived.Test.YtadpelkpdaohnaaGreatDoorZPText
namespace Go.Proofs.YtadpelkpdaohnaaGreatDoor.En
open Go
theorem qF (l:List Int) (hl:l.length<=maxLen): ∃d:ByteArray,gE l=some (d,())/\gH l=some (d,())/\d.size<=10:=by
 unfold gE gH;rcases nf l hl with ⟨g1,g2,ha⟩| ⟨g1,g2⟩
 ·have h5:=ha.len;simp only[g1,g2,af,bq,eu,kI];by_cases h0: (l.length:Int)=0
  ·simp only[if_pos h0];exact⟨_,rfl,rfl,by decide⟩
  ·simp only[if_neg h0]
   obtain⟨d,d1,e1,e2⟩:=H6 (B1:=fS) (B2:=fU) (β:=ByteArray) l.length (fun k d=>((l,d,(k:Int),()),(),())) (fun k d=>((d,l,(l.length:Int),(k:Int),()),(),())) (fun k d=>d.size<=2*k) (fun d=>((d,()),(),())) (fun d=>((d,()),(),()))
    (fun d _=>by simp only[fS,fU,dI];exact⟨if_neg (by omega),if_neg (by omega)⟩)
    (fun k d hk hd=>by
      have c1: (k:Int)< (l.length:Int):=by omega
      have c2: (0:Int)<=(k:Int):=by omega
      have hz:=(ha k hk).1;obtain⟨a,a1,a2,a3⟩:=KJ (a:=l[k]) (by omega) (by omega);refine⟨d++a,?_⟩;have hs:d.size+a.size<=2 ^ 40:=by omega
      simp only[fS,fU,dI,ea,if_pos c1,if_pos c2,aA,ah hk,af,a1,a2,if_pos hs,dT hl hk];exact⟨trivial,trivial,by rw[ByteArray.size_append]; omega⟩)
    ByteArray.empty (by decide)
   rw[show nz ((l,ByteArray.empty,0,()),(),())=_ from e1,show nC ((ByteArray.empty,l,(l.length:Int),0,()),(),())=_ from e2];exact⟨d,rfl,rfl,by omega⟩
 ·simp only[g1,g2,af,Bool.not_false,ey];exact⟨_,rfl,rfl,by decide⟩
theorem zl (c:dM) (h:gX maxLen c) (hv:ej c=some (true,())): ∃d:ByteArray,ip c=some (d,())/\iy c=some (d,())/\d.size<=40:=by
 obtain⟨v,v1,v2⟩:=lJ c h;rw[hv] at v1;simp only[ae,al,and_true] at v1;subst v1;obtain⟨f1,f2,f3,f4,f5,_⟩:=sd h hv
 have hp:0<=c.primary/\c.primary<=4:=by obtain⟨k,hk,e⟩:=aM f3;rw[<-e];exact (f1 k hk).1
 obtain⟨a,a1,a2,a3⟩:=KJ (a:=c.epoch) (by omega) (by omega);obtain⟨b,b1,b2,b3⟩:=KJ (a:=c.primary) (by omega) (by omega);obtain⟨r,r1,r2,r3⟩:=qF c.replicas h.1;obtain⟨w,w1,w2,w3⟩:=qF c.witnesses h.2;have hz: ∀z:ByteArray,z.data.toList.length=z.size:=fun z=>b7
 have hS: ∃t:ByteArray,ip c=some (t,())/\t.data.toList=a.data.toList++ [32] ++b.data.toList++ [32] ++r.data.toList++ [32] ++w.data.toList:=by unfold ip;simp only[hv,a1,b1,r1,w1,af,bq,eu];simp (disch:=(simp only[ByteArray.size_append,Bz,aY,bJ]; omega)) only[Ky];refine⟨_,rfl,?_⟩;simp only[ByteArray.toList_data_append]
 have hI: ∃t:ByteArray,iy c=some (t,())/\t.data.toList=a.data.toList++ [32] ++b.data.toList++ [32] ++r.data.toList++ [32] ++w.data.toList:=by
  unfold iy;simp only[v2,a2,b2,r2,w2,af,bq,eu]
  have hJ:Lib.join ([a,b,r,w].map (·.data.toList)) [32] =a.data.toList++ [32] ++b.data.toList++ [32] ++r.data.toList++ [32] ++w.data.toList:=by simp only[Lib.join,List.intercalate,List.intersperse,aP,cb,List.flatten_cons,List.flatten_nil,aU,b6,bB,bw]
  have hn: (a.data.toList++ [32] ++b.data.toList++ [32] ++r.data.toList++ [32] ++w.data.toList).length<=1048576:=by simp only[bn,aY,bJ,hz];omega
  unfold uh;rw[hJ,if_pos ⟨hn,by simp only[aY,bJ]; omega⟩];exact⟨_,rfl,rfl⟩
 obtain⟨t,t1,t2⟩:=hS;obtain⟨u,u1,u2⟩:=hI;have :u=t:=ByteArray.ext (Array.toList_inj.1 (u2.trans t2.symm));subst this;refine⟨u,t1,u1,?_⟩;rw[<-hz u,u2];simp only[bn,aY,bJ,hz];omega
theorem ET (x:dX) (ok:o5 1048576 x):tD (lA x) (lF x):=by
 obtain⟨v,v1,v2⟩:=sb x ok;unfold lA lF;simp only[v1,v2,af];cases v with
 |false=>exact⟨_,rfl,rfl⟩
 |true=>
  have vc:=zg ok v1;obtain⟨c,d,c1,c2,c3,_,c5,_⟩:=o4 x ok v1;simp only[c1,c2,af,bq,eu];cases d with
  |false=>exact⟨_,rfl,rfl⟩
  |true=>
   obtain⟨f,f1,f2,f3⟩:=zl c c3 (c5 rfl).1;have hml:=k9 ok.2.2.1
   have h20:x.master.configs.length<=20:=by
    obtain⟨g1,_⟩:=zf hml vc.ml;rcases bc x.master.configs.length with h0|h0
    ·omega
    ·have hk:x.master.configs.length-1<x.master.configs.length:=by omega
     obtain⟨q1,q2⟩:=g1 _ hk;have:=(sd (hml.2 _ (bF hk)) q1).2.2.2.2.1;omega
   obtain⟨n,n1,n2,n3⟩:=KJ (a:=(x.master.configs.length:Int)) (by omega) (by omega);obtain⟨b,b1,b2⟩:=EP x ok;obtain⟨m,m1,m2,m3⟩:=mark b ⟨⟨[115,101,114,118,105,110,103]⟩⟩ ⟨⟨[119,97,105,116,105,110,103]⟩⟩ (by decide) (by decide);simp only[bq,eu,f1,f2,n1,n2,b1,b2,m1,m2,af];simp (disch:=(simp only[ByteArray.size_append,Bz,aY,bJ]; omega)) only[Ky];exact⟨_,rfl,rfl⟩
theorem EU (x:dX) (h:o5 maxLen x):iO x=some (true,()):=by
 unfold iO;obtain⟨n,g1,g2⟩:=Kt x h;simp only[g1,af,dI];split
 ·rfl
 ·obtain⟨ok,ht,_⟩:=g2 (by omega);obtain⟨a,s1,s2⟩:=ET x ok;simp only[EH x ok,s1,s2,af,JE rfl,vS x ok,bq,eu]
end Go.Proofs.YtadpelkpdaohnaaGreatDoor.En
