/- AuditMarks: the plain law. -/
import Derived.Test.YtpagmogboinlpaaZPMach
namespace Go.Proofs.Ytpagmogboinlpaa.En
open Go
theorem Bs:Cq lO (fun l=>l.length<=maxLen) (fun l=>l.length<=1048576):=wN (fun _ _=>rfl)
theorem Bu (l:List fy) (h:l.length<=1048576):ik l=some (l,()):=BO (F:=ik) (B:=jC) nk ⟨0,0,false,0,0,⟨0,0,0,0,0,0⟩⟩ 88 (fun _=>rfl) (fun _ _ _=>rfl) (by decide) l h (fun _ _=>rfl)
theorem u4 (x:fy):kh x x=some (true,()):=by unfold kh;simp only[beq_self_eq_true,bP,eR,rt,ai]
theorem s8 (l:List fy) (h:l.length<=maxLen):ki l l=some (true,()):=uN (F:=ki) (B:=jE) kh (fun _ _=>rfl) (fun _ _ _=>rfl) l h (fun x _=>u4 x)
theorem v8 (m:dx) (i:Int) (ho:m.objects.length<=1000) (hs:m.sessions.length<=1000): ∃v b,gU m i=some (v,b,())/\gY m i=some (v,b,())/\(VM m->b=jT i 0 2):=by
 obtain⟨b,v1,v2,v3⟩:=nr m ho hs;unfold gU gY;simp only[v1,v2,oK,v4,ai,js];cases b with
 |false=>refine⟨0,false,rfl,rfl,fun h=> ?_⟩;rw[h.valid hs] at v1;cases v1
 |true=>
  cases hw:jT i 0 2 with
  |false=>exact⟨0,false,rfl,rfl,fun _=>rfl⟩
  |true=>
   have hi:=oX.1 hw;have hlt:i.toNat<m.objects.length:=by rw[v3 rfl]; omega
   simp only[eS,eo,if_pos hi.1,af hlt,ai];exact⟨_,true,rfl,rfl,fun _=>rfl⟩
def ns (x e:fy):Bool:=decide (e.event<x.start)&&decide (x.index<bif e.read then e.index else IntKind.wrap .i64 (e.index+1))
theorem Cx (ms:List fy) (l:List dJ) (i:Nat) (hi:i<ms.length) (hm:ms.length<=maxLen):
  gV ((ms,l,(i:Int),0,()),(),())=some (if (ms.take i).any (ns ms[i])=true then .inl ((ms,l,(i:Int),(i:Int),()),(),()) else .inr ((ms,l,(),(i:Int),()),(),())):=by
 have eD:=kj (B:=fu) i (fun k=>((ms,l,(i:Int),(k:Int),()),(),())) (.inr ((ms,l,(),(i:Int),()),(),())) (fun _=> .inl ((ms,l,(i:Int),(i:Int),()),(),())) (fun k=>match ms[k]? with |some e=>ns ms[i] e|none=>false)
  (by simp only[fu]; rw[dL,if_neg (by omega)])
  (fun k hk=>by
    have c1: (k:Int)< (i:Int):=by omega
    have c2: (0:Int)<=(k:Int):=by omega
    have c3: (0:Int)<=(i:Int):=by omega
    have hkl:k<ms.length:=by omega
    simp only[fu,dL,js,eo,if_pos c1,if_pos c2,if_pos c3,aQ,af hkl,af hi,ai,eg hm hkl,ns];cases ms[k].read<;>by_cases h1:ms[k].event<ms[i].start
    ·by_cases h2:ms[i].index<IntKind.wrap .i64 (ms[k].index+1)<;>simp[h1,h2,eR]
    ·simp[h1,eR]
    ·by_cases h2:ms[i].index<ms[k].index<;>simp[h1,h2,eS]
    ·simp[h1,eS])
 have any: ((ms.take i).any (ns ms[i])=true)↔ ∃k,k<i/\(match ms[k]? with |some e=>ns ms[i] e|none=>false)=true:=by
  rw[bH];constructor
  ·rintro⟨e,he,hb⟩
   obtain⟨k,hk,rfl⟩:=aR he;have hk':k<i:=by rw[aW] at hk; omega
   refine⟨k,hk',?_⟩;rw[af (by omega)];rw[List.getElem_take] at hb;exact hb
  ·rintro⟨k,hk,hb⟩
   rw[af (by omega)] at hb;exact⟨ms[k]'(by omega),List.mem_take_iff_getElem.2 ⟨k,by omega,rfl⟩,hb⟩
 rcases eD with ⟨k1,k2⟩| ⟨k,hk,k1,k2,_⟩
 ·rw[show gV ((ms,l,(i:Int),0,()),(),())=_ from k1,if_neg (fun h=> ?_)];obtain⟨k,hk,hb⟩:=any.1 h;rw[k2 k hk] at hb;cases hb
 ·rw[show gV ((ms,l,(i:Int),0,()),(),())=_ from k1,if_pos (any.2 ⟨k,hk,k2⟩)]
theorem Cy (x:fy) (es:List fy) (he:es.length<=maxLen):
  gi (((),es,(es.length:Int),0,()),((x.start,x.event,x.read,x.index,x.value,x.op.client,x.op.seq,x.op.kind,x.op.object,x.op.old,x.op.value,()),()),())=some (if es.any (ns x)=true then .inl ((false,()),(),()) else .inr (((),()),(),())):=by
 have eD:=kj (B:=eM) es.length (fun k=>(((),es,(es.length:Int),(k:Int),()),((x.start,x.event,x.read,x.index,x.value,x.op.client,x.op.seq,x.op.kind,x.op.object,x.op.old,x.op.value,()),()),())) (.inr (((),()),(),())) (fun _=> .inl ((false,()),(),())) (fun k=>match es[k]? with |some e=>ns x e|none=>false)
  (by simp only[eM]; rw[dL,if_neg (by omega)])
  (fun k hk=>by
    have c1: (k:Int)< (es.length:Int):=by omega
    have c2: (0:Int)<=(k:Int):=by omega
    simp only[eM,dL,js,eo,if_pos c1,if_pos c2,aQ,af hk,ai,eg he hk,ns];cases es[k].read<;>by_cases h1:es[k].event<x.start
    ·by_cases h2:x.index<IntKind.wrap .i64 (es[k].index+1)<;>simp[h1,h2,eR]
    ·simp[h1,eR]
    ·by_cases h2:x.index<es[k].index<;>simp[h1,h2,eS]
    ·simp[h1,eS])
 rcases eD with ⟨k1,k2⟩| ⟨k,hk,k1,k2,_⟩
 ·rw[show gi (((),es,(es.length:Int),0,()),((x.start,x.event,x.read,x.index,x.value,x.op.client,x.op.seq,x.op.kind,x.op.object,x.op.old,x.op.value,()),()),())=_ from k1,if_neg (fun h=> ?_)];obtain⟨e,he',hb⟩:=bH.1 h;obtain⟨k,hk,rfl⟩:=aR he';have:=k2 k hk;rw[af hk] at this;have this:ns x es[k] =false:=this;rw[hb] at this;cases this
 ·rw[af hk] at k2;rw[show gi (((),es,(es.length:Int),0,()),((x.start,x.event,x.read,x.index,x.value,x.op.client,x.op.seq,x.op.kind,x.op.object,x.op.old,x.op.value,()),()),())=_ from k1,if_pos (bH.2 ⟨es[k],cw hk,k2⟩)]
theorem xN (x:fy) (es:List fy) (l:List dJ) (he:es.length<=maxLen) (hl:l.length<=maxLen) (hL:fj l=some (true,())) (hL2:iU l=some (true,())):
  ∃b,ke x l=some (b,())/\fe x es l=some (b&& !(es.any (ns x)),()):=by
 unfold ke fe;simp only[hL2,ai,bP,eR,Cy x es he]
 have tail: ∀k:Bool×Unit->Option (Bool×Unit),(Sum.elim (fun e25_0: (Bool×Unit)×Unit×Unit=>some e25_0.1) (fun _: (Unit×Unit)×Unit×Unit=>some (true,())) (if es.any (ns x)=true then .inl ((false,()),(),()) else .inr (((),()),(),())))=some (!(es.any (ns x)),()):=fun _=>by cases es.any (ns x)<;>rfl
 simp only[show ∀z,(Sum.elim (fun e25_0: (Bool×Unit)×Unit×Unit=>some e25_0.1) (fun _: (Unit×Unit)×Unit×Unit=>some (true,())) z:Option (Bool×Unit))=(Sum.elim (fun e25_0=>some e25_0.1) (fun _=>some (true,())) z) from fun _=>rfl,tail some];cases x.read with
 |true=>
  simp only[eS,oK,v4,ai,js];cases hw:jT x.index 0 (l.length:Int) with
  |false=>exact⟨false,rfl,rfl⟩
  |true=>
   have hi:=oX.1 hw;have c1:0<=(0:Int)/\(0:Int)<=x.index/\x.index<=(l.length:Int):=by omega
   have hLp:fj ((l.drop (0:Int).toNat).take (x.index.toNat-(0:Int).toNat))=some (true,()):=v6 hl hL _;obtain⟨m,b,m1,m2,m3,m4,m5⟩:=rx ((l.drop (0:Int).toNat).take (x.index.toNat-(0:Int).toNat)) (by rw[aW,bu]; omega);obtain⟨rfl,vm⟩:=m5 hLp;obtain⟨v,b,r1,r2,r3⟩:=v8 m x.op.object (by omega) (by omega);have hb:=r3 vm;simp only[eS,eo,if_pos c1,kE,m1,m2,r1,r2,ai,bP,eR,hb];cases jT x.op.object 0 2 with
   |false=>exact⟨false,rfl,rfl⟩
   |true=>refine⟨v==x.value,rfl,?_⟩;cases (v==x.value)<;>rfl
 |false=>
  obtain⟨r,b,r1,r2,r3⟩:=z3 l x.index hl;simp only[eR,r1,r2,ai,js];cases b with
  |false=>exact⟨false,rfl,rfl⟩
  |true=>
   obtain⟨h0,h1⟩:=r3 rfl;have hlt:x.index.toNat<l.length:=by omega
   obtain⟨n,f1,f2,_⟩:=Cw l x.op.client x.op.seq hl;simp only[eS,eo,if_pos h0,af hlt,ai,f1,f2];generalize ((l[x.index.toNat].op.client==x.op.client)&&((l[x.index.toNat].op.seq==x.op.seq)&&((l[x.index.toNat].op.kind==x.op.kind)&&((l[x.index.toNat].op.object==x.op.object)&&((l[x.index.toNat].op.old==x.op.old)&&((l[x.index.toNat].op.value==x.op.value)&&true))))))=q;cases q with
   |false=>cases (r.value==x.value)<;>exact⟨false,rfl,rfl⟩
   |true=>
    cases (r.value==x.value) with
    |false=>exact⟨false,rfl,rfl⟩
    |true=>refine⟨n==x.index,rfl,?_⟩;cases (n==x.index)<;>rfl
theorem v9 (ms:List fy) (l:List dJ) (hm:ms.length<=maxLen) (hl:l.length<=maxLen): ∃n,gW ms l=some (n,())/\gZ ms l=some (n,()):=by
 have eD:=lM (B1:=fv) (B2:=fw) ms.length (fun k=>((ms,l,(k:Int),()),(),())) (fun k=>((ms,l,ms,(ms.length:Int),(k:Int),()),(),())) (.inr (((),()),(),())) (.inr (((),()),(),())) (fun k=> .inl (((k:Int),()),(),())) (fun k=> .inl (((k:Int),()),(),()))
  (fun _=>True) (fun _=>True)
  (by simp only[fv]; rw[dL,if_neg (by omega)])
  (by simp only[fw]; rw[dL,if_neg (by omega)])
  (fun k hk=>by
    have c1: (k:Int)< (ms.length:Int):=by omega
    have c2: (0:Int)<=(k:Int):=by omega
    have c3:0<=(0:Int)/\(0:Int)<=(k:Int)/\(k:Int)<=(ms.length:Int):=by omega
    have e1: (ms.drop (0:Int).toNat).take ((k:Int).toNat-(0:Int).toNat)=ms.take k:=rfl;simp only[fv,fw,dL,eo,if_pos c1,if_pos c2,if_pos c3,aQ,af hk,ai,js,eg hm hk];rcases zW l hl with ⟨g1,g2,_⟩| ⟨g1,g2⟩
    ·obtain⟨b,f1,f2⟩:=xN ms[k] (ms.take k) l (by rw[aW]; omega) hl g1 g2;simp only[g1,ai,eS,f1,Cx ms l k hk hm,show (ms.drop (0:Int).toNat).take (k-(0:Int).toNat)=ms.take k from rfl,f2];cases b with
     |false=>exact .inr ⟨rfl,rfl,trivial⟩
     |true=>
      cases (ms.take k).any (ns ms[k]) with
      |true=>exact .inr ⟨rfl,rfl,trivial⟩
      |false=>refine .inl ⟨?_,rfl,trivial⟩;simp only[eS,aO,if_false,cI,eg hm hk]
    ·have hn:fe ms[k] ((ms.drop (0:Int).toNat).take (k-(0:Int).toNat)) l=some (false,()):=by
      unfold fe;simp only[g2,ai];rfl
     simp only[g1,ai,hn];exact .inr ⟨rfl,rfl,trivial⟩)
 unfold gW gZ;rcases eD with ⟨k1,k2,_⟩| ⟨k,_,k1,k2,_⟩
 ·rw[show jl ((ms,l,0,()),(),())=_ from k1,show jq ((ms,l,ms,(ms.length:Int),0,()),(),())=_ from k2];exact⟨_,rfl,rfl⟩
 ·rw[show jl ((ms,l,0,()),(),())=_ from k1,show jq ((ms,l,ms,(ms.length:Int),0,()),(),())=_ from k2];exact⟨_,rfl,rfl⟩
theorem xO (a0:List fy) (a1:List dJ) (h0:a0.length<=maxLen) (h1:a1.length<=maxLen):fm a0 a1=some (true,()):=by
 unfold fm;obtain⟨n,g1,g2,g3⟩:=Bs a0 1048576 h0 (by omega) (by omega);simp only[g1,ai,dL];split
 ·rfl
 ·obtain⟨m,j1,j2,j3⟩:=zT a1 n h1 (by omega) (by omega);simp only[j1,ai];split
  ·rfl
  ·have l0:=g3 (by omega);have l1:=j3 (by omega);obtain⟨m,m1,m2⟩:=v9 a0 a1 h0 h1;simp only[Bu a0 l0,zU a1 l1,m1,m2,ai,s8 _ (zV l0),qG _ (zV l1),bP,eR,beq_self_eq_true]
end Go.Proofs.Ytpagmogboinlpaa.En
