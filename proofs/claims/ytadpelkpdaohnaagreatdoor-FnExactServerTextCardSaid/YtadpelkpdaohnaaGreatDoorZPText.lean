/- Texts of a server: the plain law. -/
import Derived.Test.YtadpelkpdaohnaaGreatDoorZPServe
namespace Go.Proofs.YtadpelkpdaohnaaGreatDoor.En
open Go
def AM (n:Nat):ByteArray:=⟨(Lib.decDigits n).toArray⟩
theorem Gf {n:Nat} (h:n<10):Lib.decDigits n= [UInt8.ofNat (48+n)] :=by rw[Lib.decDigits];simp[h]
theorem Ir {n:Nat} (h1:10<=n) (h2:n<100):Lib.decDigits n= [UInt8.ofNat (48+n / 10),UInt8.ofNat (48+n % 10)] :=by rw[Lib.decDigits];simp only[dif_neg (show ¬n<10 by omega),Gf (show n / 10<10 by omega)];rfl
theorem CQ {n:Nat} (h:n<100): (AM n).size<=2:=by
 show (Lib.decDigits n).toArray.size<=2;rcases bK n 10 with h1|h1
 ·rw[Gf h1]; exact cG 1
 ·rw[Ir h1 h]; exact au 2
theorem It (k:Nat) (hk:k<10):BI [IntKind.wrap .u8 (IntKind.wrap .i64 (48+(k:Int)))] =⟨#[UInt8.ofNat (48+k)]⟩:=by rcases (by omega:k=0\/k=1\/k=2\/k=3\/k=4\/k=5\/k=6\/k=7\/k=8\/k=9) with rfl|rfl|rfl|rfl|rfl|rfl|rfl|rfl|rfl|rfl<;>kernel_rfl
theorem BF (n:Nat) (hn:0<n) (h:n<100) (b:ByteArray) (hb:b.size<=10):gg (((n:Int),b,false,()),(),())=some (.inl ((((n / 10:Nat):Int),(⟨#[UInt8.ofNat (48+n % 10)]⟩:ByteArray)++b,false,()),(),())):=by
 have e1:Int.tmod (n:Int) 10=((n % 10:Nat):Int):=by rw[Int.tmod_eq_emod_of_nonneg (by omega)];omega
 have e2:IntKind.wrap .i64 (Int.tdiv (n:Int) 10)=((n / 10:Nat):Int):=by rw[Int.tdiv_eq_ediv_of_nonneg (by omega),iG (by omega) (by omega)];omega
 have hne: ¬ (n:Int)=0:=by omega
 have hlt: ¬ ((n % 10:Nat):Int)<0:=by omega
 have hs:=It (n % 10) (by omega)
 have hz: (⟨#[UInt8.ofNat (48+n % 10)]⟩:ByteArray).size+b.size<=2 ^ 40:=by have : (⟨#[UInt8.ofNat (48+n % 10)]⟩:ByteArray).size=1:=rfl;omega
 have hl: ∀z:Int,(([z]:List Int).drop 0).take ([z]:List Int).length= [z] :=fun _=>rfl;have hc: ∀z:Int,(0< ([z]:List Int).length/\0+([z]:List Int).length<=([z]:List Int).length)=True:=fun _=>eq_true ⟨Nat.one_pos,au 1⟩;simp only[gg,e1,e2,jB,n8,if_neg hne,dx,if_neg hlt,eJ,hc,if_true,hl,hs,if_pos hz]
theorem EO (b:ByteArray):gg ((((0:Nat):Int),b,false,()),(),())=some (.inr ((b,false,()),(),())):=by rw[show ((0:Nat):Int)=0 from rfl];simp only[gg,jB,n8,if_true]
theorem Gg (n:Nat) (h:n<100):fg (n:Int)=some (AM n,()):=by
 have hlt: ¬ (n:Int)<0:=by omega
 unfold fg;rcases bg n with rfl|hn
 ·rw[show ((0:Nat):Int)=0 from rfl];simp only[n8,if_true];unfold AM;rw[Gf (by omega)];rfl
 ·have hne: ¬ (n:Int)=0:=by omega
  have s1:=BF n hn h ByteArray.empty (by decide);simp only[n8,if_neg hne,decide_eq_false hlt];unfold o1;rw[nP s1];rcases bK n 10 with h1|h1
  ·have :n / 10=0:=by omega
   rw[this];rw[iU (EO _)];simp only[af,dV];have hm:n % 10=n:=by omega
   rw[hm,ByteArray.append_empty];unfold AM;rw[Gf h1]
  ·have s2:=BF (n / 10) (by omega) (by omega) ((⟨#[UInt8.ofNat (48+n % 10)]⟩:ByteArray)++ByteArray.empty) (by rw[ByteArray.size_append]; exact (by decide:1+0<=10));rw[nP s2];have :n / 10 / 10=0:=by omega
   rw[this,iU (EO _)];simp only[af,dV];have hm:n / 10 % 10=n / 10:=by omega
   rw[hm,ByteArray.append_empty];unfold AM;rw[Ir h1 h];rfl
theorem Gh (n:Nat) (h:n<100):fh (n:Int)=some (AM n,()):=by unfold fh kW;rw[if_pos (by omega)];rfl
theorem HA {a:Int} (h0:0<=a) (h:a<100): ∃d:ByteArray,fg a=some (d,())/\fh a=some (d,())/\d.size<=2:=by obtain⟨n,rfl⟩:=cY h0;exact⟨AM n,Gg n (by omega),Gh n (by omega),CQ (by omega)⟩
theorem EP {n:Int} (h:n=0\/n=1\/n=2\/n=3): ∃d:ByteArray,mZ n=some (d,())/\m8 n=some (d,())/\d.size<=10:=by
 rcases h with rfl|rfl|rfl|rfl
 ·exact⟨⟨⟨[110,111,110,101]⟩⟩,by kernel_rfl,by kernel_rfl,by decide⟩
 ·exact⟨⟨⟨[112,114,105,109,97,114,121]⟩⟩,by kernel_rfl,by kernel_rfl,by decide⟩
 ·exact⟨⟨⟨[98,97,99,107,117,112]⟩⟩,by kernel_rfl,by kernel_rfl,by decide⟩
 ·exact⟨⟨⟨[119,105,116,110,101,115,115]⟩⟩,by kernel_rfl,by kernel_rfl,by decide⟩
theorem mark (b:Bool) (y z:ByteArray) (hy:y.size<=10) (hz:z.size<=10): ∃d:ByteArray,mG b y z=some (d,())/\n6 b y z=some (d,())/\d.size<=10:=by
 cases b
 ·exact⟨z,rfl,rfl,hz⟩
 ·exact⟨y,rfl,rfl,hy⟩
theorem ES {l:List Int} (hl:l.length<=maxLen) (hv:gO l=some (true,())): ∀k (hk:k<l.length),0<=l[k] /\l[k] <=3:=by
 have fb:=jX (B1:=eM) (B2:=eM) l.length (fun k=>((l,(k:Int),()),(),())) (fun k=>((l,(k:Int),()),(),())) (.inr ((l,(),()),(),())) (.inr ((l,(),()),(),())) (fun _=> .inl ((l,false,()),(),())) (fun _=> .inl ((l,false,()),(),()))
  (fun k=> ∀hk:k<l.length,mM l[k] 0 3=true) (fun _=>True)
  (by simp only[eM]; rw[dx,if_neg (by omega)])
  (by simp only[eM]; rw[dx,if_neg (by omega)])
  (fun k hk=>by
    have c1: (k:Int)< (l.length:Int):=by omega
    have c2: (0:Int)<=(k:Int):=by omega
    simp only[eM,dx,eJ,if_pos c1,if_pos c2,aK,ah hk,af,n9,dU hl hk];cases hw:mM l[k] 0 3 with
    |false=>exact .inr ⟨rfl,rfl,trivial⟩
    |true=>exact .inl ⟨rfl,rfl,fun _=>hw⟩)
 rcases fb with ⟨_,_,k3⟩| ⟨k,_,k1,_⟩
 ·exact fun k hk=>gT.1 (k3 k hk hk)
 ·unfold gO at hv;rw[show kS ((l,0,()),(),())=_ from k1] at hv;simp only[af,cU] at hv;cases hv
theorem Hw {s:ek} {id:Int} (hv:dX s id=some (true,())):1<=s.version/\s.version<=2:=by
 unfold dX at hv;simp only[n9,af,jB] at hv;cases h1:mM s.version 1 2 with
 |false=>rw[h1] at hv; cases hv
 |true=>exact gT.1 h1
theorem Iu {a b:ByteArray} {ρ:Type} {x:Option ρ} (h:a.size+b.size<=2 ^ 40):du (a.size+b.size<=2 ^ 40) x none=x:=by rw[eJ,if_pos h]
theorem zo (l:List UInt8): (⟨⟨l⟩⟩:ByteArray).size=l.length:=rfl
theorem ET {a b:ByteArray} (h:a.data.toList=b.data.toList):Hy a b=true:=by have :a=b:=ByteArray.ext (Array.toList_inj.1 h);subst this;simp[Hy]
theorem AN (x:ev) (ok:qV 1048576 x) (id:Int): ∃a b,fS x id=some (a,())/\fY x id=some (b,())/\Hy b a=true:=by
 obtain⟨v,v1,v2⟩:=w2 x ok;have none': ∀ {A B:Option (ByteArray×Unit)},A=some (ByteArray.empty,())->B=some (ByteArray.empty,())-> ∃a b,A=some (a,())/\B=some (b,())/\Hy b a=true:=fun h1 h2=>⟨_,_,h1,h2,ET rfl⟩
 cases v with
 |false=>
  refine none' ?_ ?_
  ·unfold fS lh; simp only[v1,af,dV,cJ,ea]
  ·unfold fY hU; simp only[v2,af,dV,cJ,ea]
 |true=>
  cases hw:mM id 0 4 with
  |false=>
   refine none' ?_ ?_
   ·unfold fS lh; simp only[v1,n9,hw,af,ea,cJ]
   ·unfold fY hU; simp only[v2,qj,hw,af,ea,cJ]
  |true=>
   have hid:=gT.1 hw;have vc:=Gd ok v1;obtain⟨s,s1,s2,s3⟩:=Iq ok vc (a:=id) (by omega);obtain⟨f1,f2,f3,f4,f5,_,_,f8,f9⟩:=EJ s2 s3;have fv:=Hw s3;have hsl:=fo ok.2.1;have h5:=EN hsl vc.sides;have hlt:id.toNat<x.sides.length:=by omega
   have hsv:=ES hsl vc.sides id.toNat hlt;obtain⟨n,n1,n2,n3⟩:=EI s.config id (jV s2.1);obtain⟨r,r1,r2,r3⟩:=EP n3;obtain⟨m,m1,m2,m3⟩:=mark s.up ⟨⟨[117,112]⟩⟩ ⟨⟨[100,111,119,110]⟩⟩ (by decide) (by decide);obtain⟨k,k1,k2,k3⟩:=mark s.intact ⟨⟨[105,110,116,97,99,116]⟩⟩ ⟨⟨[119,105,112,101,100]⟩⟩ (by decide) (by decide);obtain⟨a,a1,a2,a3⟩:=HA (a:=s.version) (by omega) (by omega);obtain⟨b,b1,b2,b3⟩:=HA (a:=s.epoch) (by omega) (by omega);obtain⟨c,c1,c2,c3⟩:=HA (a:=s.first) (by omega) (by omega);obtain⟨d,d1,d2,d3⟩:=HA (a:=(s.log.length:Int)) (by omega) (by omega);obtain⟨e,e1,e2,e3⟩:=HA (a:=s.commit) (by omega) (by omega);obtain⟨g,g1,g2,g3⟩:=HA (a:=x.sides[id.toNat]) (by omega) (by omega)
   have hS: ∃t,fS x id=some (t,())/\t.data.toList=m.data.toList++ [32] ++k.data.toList++ [32,118] ++a.data.toList++ [32,101,112,111,99,104,32] ++b.data.toList++ [32] ++r.data.toList++ [32,108,111,103,32] ++c.data.toList++ [43] ++d.data.toList++ [32,99,111,109,109,105,116,32] ++e.data.toList++ [32,115,105,100,101,32] ++g.data.toList:=by unfold fS lh;simp only[v1,n9,hw,af,ea,bu,dV,eW hid.1,s1,m1,k1,a1,b1,n1,r1,c1,d1,e1,ah hlt,g1];simp (disch:=(simp only[ByteArray.size_append,zo,aW,bE]; omega)) only[Iu];refine⟨_,rfl,?_⟩;simp only[ByteArray.toList_data_append]
   have hI: ∃t,fY x id=some (t,())/\t.data.toList=m.data.toList++ [32] ++k.data.toList++ [32,118] ++a.data.toList++ [32,101,112,111,99,104,32] ++b.data.toList++ [32] ++r.data.toList++ [32,108,111,103,32] ++c.data.toList++ [43] ++d.data.toList++ [32,99,111,109,109,105,116,32] ++e.data.toList++ [32,115,105,100,101,32] ++g.data.toList:=by
    unfold fY hU;simp only[v2,qj,hw,af,ea,bu,dV,eW hid.1,s1,m2,k2,a2,b2,n2,r2,c2,d2,e2,ah hlt,g2];simp (disch:=(simp only[ByteArray.size_append,zo,aW,bE]; omega)) only[Iu];have hz: ∀z:ByteArray,z.data.toList.length=z.size:=fun z=>bS
    have hJ:Lib.join ([m,k,((⟨⟨[118]⟩⟩:ByteArray)++a),(⟨⟨[101,112,111,99,104]⟩⟩:ByteArray),b,r,(⟨⟨[108,111,103]⟩⟩:ByteArray),((c++(⟨⟨[43]⟩⟩:ByteArray))++d),(⟨⟨[99,111,109,109,105,116]⟩⟩:ByteArray),e,(⟨⟨[115,105,100,101]⟩⟩:ByteArray),g].map (·.data.toList)) [32] =m.data.toList++ [32] ++k.data.toList++ [32,118] ++a.data.toList++ [32,101,112,111,99,104,32] ++b.data.toList++ [32] ++r.data.toList++ [32,108,111,103,32] ++c.data.toList++ [43] ++d.data.toList++ [32,99,111,109,109,105,116,32] ++e.data.toList++ [32,115,105,100,101,32] ++g.data.toList:=by simp only[Lib.join,List.intercalate,List.intersperse,aL,bX,List.flatten_cons,List.flatten_nil,ByteArray.toList_data_append,aP,bV,bB,bq]
    have hn: (m.data.toList++ [32] ++k.data.toList++ [32,118] ++a.data.toList++ [32,101,112,111,99,104,32] ++b.data.toList++ [32] ++r.data.toList++ [32,108,111,103,32] ++c.data.toList++ [43] ++d.data.toList++ [32,99,111,109,109,105,116,32] ++e.data.toList++ [32,115,105,100,101,32] ++g.data.toList).length<=1048576:=by simp only[bw,aW,bE,hz];omega
    unfold rZ;rw[hJ,if_pos ⟨hn,by simp only[aW,bE]; omega⟩];exact⟨_,rfl,rfl⟩
   obtain⟨t,t1,t2⟩:=hS;obtain⟨u,u1,u2⟩:=hI;exact⟨t,u,t1,u1,ET (u2.trans t2.symm)⟩
theorem AO (x:ev) (id:Int) (h:qV maxLen x):gm x id=some (true,()):=by
 unfold gm;obtain⟨n,g1,g2⟩:=Ip x h;simp only[g1,af,dx];split
 ·rfl
 ·obtain⟨ok,ht,_⟩:=g2 (by omega);obtain⟨a,b,s1,s2,e⟩:=AN x ok id;simp only[CL x ok,s1,s2,af,e,tU x ok,bu,dV]
end Go.Proofs.YtadpelkpdaohnaaGreatDoor.En
