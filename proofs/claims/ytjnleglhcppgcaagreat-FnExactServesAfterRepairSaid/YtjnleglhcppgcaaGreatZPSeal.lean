/- Sealing: the plain law. -/
import Derived.Test.YtjnleglhcppgcaaGreatZPSource
import Derived.Test.YtjnleglhcppgcaaGreatZPVal
namespace Go.Proofs.YtjnleglhcppgcaaGreat.En
open Go
theorem HQ {α:Type} {w:α->Int}: ∀ {a b:List α},a.length=b.length->(∀ (j:Nat) (ha:j<a.length) (hb:j<b.length),w a[j] =w b[j])->oq w a=oq w b
 | [],[],_,_=>rfl
 |x::a,y::b,h,h2=>by
  have h0:=h2 0 (by simp) (by simp);simp only[List.getElem_cons_zero] at h0
  have ih:=HQ (w:=w) (a:=a) (b:=b) (by simpa using h) fun j ha hb=>by have:=h2 (j+1) (by simpa using ha) (by simpa using hb);simpa using this
  unfold oq;rw[h0,ih]
abbrev vx (s:eo) (e:Int):eo:=⟨s.up,s.intact,s.version,e,s.config,s.first,s.log,s.commit,s.learned⟩
theorem V0 {s:eo} {id:Int} (h:iZ 1048576 s) (hv:eM s id=some (true,())):s.config.epoch<=s.epoch:=by
 have hc:=fY h.1;obtain⟨_,_,_,_,_,_,_,e0,_⟩:=yE h hv;by_cases hz:s.config=⟨0,0,[],[]⟩
 ·rw[hz];exact e0
 ·refine Int.not_lt.1 fun hlt=> ?_;unfold eM at hv;simp only[kg,ae,fi,wO s.config hc,ei,if_neg hz,if_pos hlt] at hv;cases h1:je s.version 1 2 with
  |false=>rw[h1] at hv; cases hv
  |true=>
  cases h2:je s.epoch 0 20 with
  |false=>rw[h1,h2] at hv; cases hv
  |true=>
  rcases uF s.log (ff h.2.1) with ⟨a1,a2,a3⟩| ⟨a1,a2⟩
  case inr=>simp only[h1,h2,a1,ae,en,eB] at hv; cases hv
  rcases uF s.learned (ff h.2.2) with ⟨b1,b2,b3⟩| ⟨b1,b2⟩
  case inr=>simp only[h1,h2,a1,b1,ae,en,eB] at hv; cases hv
  simp only[h1,h2,a1,b1,ae,en] at hv;cases h3:je s.first 0 16<;>rw[h3] at hv
  ·cases hv
  ·cases h4:je (IntKind.wrap .i64 (s.first+(s.log.length:Int))) 0 16<;>rw[h4] at hv
   ·cases hv
   ·cases h5:je s.commit 0 (IntKind.wrap .i64 (s.first+(s.log.length:Int)))<;>rw[h5] at hv
    ·cases hv
    ·cases h6:s.intact<;>rw[h6] at hv<;>cases hv
theorem Tu {s:eo} {id:Int} (h:iZ 1048576 s) (hv:eM s id=some (true,())) {e:Int} (h1:s.epoch<=e) (h2:e<=20):eM (vx s e) id=some (true,()):=by have hle:=V0 h hv;obtain⟨_,_,_,_,_,_,_,e0,e20⟩:=yE h hv;have w1:je s.epoch 0 20=true:=fK.2 (by omega);have w2:je e 0 20=true:=fK.2 (by omega);unfold eM at hv ⊢;simp only[kg,ae,ei,w1,w2,if_neg (show ¬s.epoch<s.config.epoch by omega),if_neg (show ¬e<s.config.epoch by omega)] at hv ⊢;exact hv
theorem WA {m:ev} {s:eo} {k:Int} (ok:iZ 1048576 s) (h:SV m s k) {e:Int} (h1:s.epoch<=e) (h2:e<=(m.configs.length:Int)) (h3:m.configs.length<=20):SV m (vx s e) k:=
 ⟨Tu ok h.val h1 (by omega),h2,h.lrn,h.cfg⟩
theorem Nj (s:eo) (e:Int) (h:iZ 1048576 s): ∃ep b,pZ s e=some (vx s ep,b,())/\qo s e=some (vx s ep,b,())/\(ep=s.epoch\/(ep=e/\s.epoch<=e)):=by
 unfold pZ qo;simp only[(wP s h).1,(wP s h).2,kg,mG,ae,fi,ei];cases je e 1 20 with
 |false=>exact⟨s.epoch,false,rfl,rfl, .inl rfl⟩
 |true=>
  simp only[en];by_cases h1:e<=s.epoch
  ·by_cases h2:s.epoch<0
   ·simp only[if_pos h1,if_pos h2];exact⟨s.epoch,false,rfl,rfl, .inl rfl⟩
   ·simp only[if_pos h1,if_neg h2];exact⟨s.epoch,false,rfl,rfl, .inl rfl⟩
  ·by_cases h2:s.epoch<0
   ·simp only[if_neg h1,if_pos h2];exact⟨s.epoch,false,rfl,rfl, .inl rfl⟩
   ·simp only[if_neg h1,if_neg h2];exact⟨e,true,rfl,rfl, .inr ⟨rfl,by omega⟩⟩
abbrev fJ (x:eg) (S:List eo):eg:=⟨x.now,S,x.sides,x.master,x.masterUp,x.lease,x.places⟩
theorem LG (x:eg) (ok:gX 1048576 x) (hv:eA x=some (true,())) {id e:Int} (hid:0<=id/\id<5): ∃S,oO x id e=some (fJ x S,())/\oX x id e=some (fJ x S,())/\gX 1048576 (fJ x S)/\eA (fJ x S)=some (true,())/\RP x (fJ x S)/\oq uJ S=oq uJ x.servers:=by
 have vc:=jc ok hv;have hml:=Rx ok.2.2.1 vc.ml;obtain⟨v,v1,v2⟩:=iu x ok;rw[hv] at v1;simp only[af,an,and_true] at v1;subst v1;obtain⟨c,d,d1,d2,d3,_⟩:=Rz ok hv;obtain⟨m,m1,m2,m3,m4,m5,_⟩:=tC c d3;have mm:m.length<=maxLen:=by unfold maxLen; omega
 have same:fJ x x.servers=x:=rfl;unfold oO oX;simp only[(pu x ok).1,(pu x ok).2,d1,d2,hv,v2,kg,mG,ae,fi,en];cases d with
 |false=>exact⟨x.servers,rfl,rfl,ok,hv,RP.refl x,rfl⟩
 |true=>
  simp only[en];cases hw:je e 1 (x.master.configs.length:Int) with
  |false=>exact⟨x.servers,rfl,rfl,ok,hv,RP.refl x,rfl⟩
  |true=>
   have hw:=fK.1 hw
   obtain⟨S,q,k1,k2⟩:=pc (B1:=kK) (B2:=kV) m.length
    (fun k (S:List eo)=>((id,e,(),(),(),(),(k:Int),()),(fx x,(0,(),(),(),0,0,0,0,0,(),()),(x.now,(),(),(),x.master.activated,x.masterUp,x.lease.epoch,x.lease.holder,x.lease.ends,(),()),()),(m,S,x.sides,x.master.configs,x.places,())))
    (fun k S=>((id,e,(),(),(),(),(m.length:Int),(k:Int),()),(fx x,(0,(),(),(),0,0,0,0,0,(),()),(x.now,(),(),(),x.master.activated,x.masterUp,x.lease.epoch,x.lease.holder,x.lease.ends,(),()),()),(m,S,x.sides,x.master.configs,x.places,())))
    (fun k S=>S.length=x.servers.length/\ ∀ (j:Nat) (s:eo),x.servers[j]? =some s-> ∃ep,S[j]? =some (vx s ep)/\(ep=s.epoch\/(ep=e/\s.epoch<=e))/\((∀y∈m.drop k,y≠(j:Int))\/ep=s.epoch))
    (fun S=>(((),(),()),((0,(),(),(),0,0,0,0,0,(),()),(x.now,(),(),(),x.master.activated,x.masterUp,x.lease.epoch,x.lease.holder,x.lease.ends,(),()),()),(S,x.sides,x.master.configs,x.places,())))
    (fun S=>(((),(),()),((0,(),(),(),0,0,0,0,0,(),()),(x.now,(),(),(),x.master.activated,x.masterUp,x.lease.epoch,x.lease.holder,x.lease.ends,(),()),()),(S,x.sides,x.master.configs,x.places,())))
    (fun S _=>by simp only[kK,kV,ei];exact⟨if_neg (by omega),if_neg (by omega)⟩)
    (fun k S hk hS=>by
      have c1: (k:Int)< (m.length:Int):=by omega
      have c2: (0:Int)<=(k:Int)/\(k:Int)< (m.length:Int):=by omega
      have hz:=m4 _ (aV hk);have hdr:m.drop k=m[k]::m.drop (k+1):=bS hk
      have hnot: ∀y∈m.drop (k+1),y≠m[k] :=by have h2:SS (m.drop k):=List.Pairwise.sublist (List.drop_sublist k m) m5;rw[hdr] at h2;intro y hy;have:=(cd.1 h2).1 y hy;omega
      generalize hzz:m[k] =z at hz hdr hnot;have hg:m[k]? =some z:=by rw[<-hzz]; exact ah hk
      obtain⟨s,s1,s2,_⟩:=ow ok vc hz;obtain⟨h1,h2⟩:=sn x ok vc hid hz
      have hSz:S[z.toNat]? =some s:=by
       obtain⟨ep,p1,_,p3⟩:=hS.2 _ s s1;rcases p3 with p3|rfl
       ·exact absurd (by omega:z=(z.toNat:Int)) (p3 z (by rw[hdr]; exact aG))
       ·exact p1
      have hlt:z.toNat<S.length:=i5 hSz;have c3:0<=z/\z< (S.length:Int):=by omega
      obtain⟨ep,b,q1,q2,q3⟩:=Nj s e s2
      have hkeep:S.length=x.servers.length/\ ∀ (j:Nat) (s:eo),x.servers[j]? =some s-> ∃ep,S[j]? =some (vx s ep)/\(ep=s.epoch\/(ep=e/\s.epoch<=e))/\((∀y∈m.drop (k+1),y≠(j:Int))\/ep=s.epoch):=by refine⟨hS.1,fun j t ht=> ?_⟩;obtain⟨ep,p1,p2,p3⟩:=hS.2 j t ht;exact⟨ep,p1,p2,p3.imp (fun h y hy=>h y (by rw[hdr]; exact aF _ hy)) (fun h=>h)⟩
      simp only[kK,kV,fx,ei,ek,if_pos c1,if_pos c2,ap,hg,ae,if_pos hz.1,if_pos c3,s1,hSz,h1,h2,aU,ay,if_true,bJ,be,q1,q2,ey mm hk];cases s.up with
      |false=>exact⟨S,rfl,rfl,hkeep⟩
      |true=>
       cases (mq x id==mq x z) with
       |false=>exact⟨S,rfl,rfl,hkeep⟩
       |true=>
        refine⟨S.set z.toNat (vx s ep),rfl,rfl,by simp[hS.1],fun j t ht=> ?_⟩;by_cases hj:j=z.toNat
        ·subst hj;rw[s1] at ht;have ht:=Option.some.inj ht;subst ht;refine⟨ep,by rw[cD hlt],q3, .inl fun y hy h=>hnot y hy (by omega)⟩
        ·obtain⟨ep',p1,p2,p3⟩:=hkeep.2 j t ht;exact⟨ep',by rw[cJ (fun h=>hj h.symm)]; exact p1,p2,p3⟩)
    x.servers ⟨rfl,fun j s h=>⟨s.epoch,h, .inl rfl, .inr rfl⟩⟩
   simp only[en,m1,m2,ae]
   rw[show w7 ((id,e,(),(),(),(),0,()),(fx x,(0,(),(),(),0,0,0,0,0,(),()),(x.now,(),(),(),x.master.activated,x.masterUp,x.lease.epoch,x.lease.holder,x.lease.ends,(),()),()),(m,x.servers,x.sides,x.master.configs,x.places,()))=_ from k1,
    show xn ((id,e,(),(),(),(),(m.length:Int),0,()),(fx x,(0,(),(),(),0,0,0,0,0,(),()),(x.now,(),(),(),x.master.activated,x.masterUp,x.lease.epoch,x.lease.holder,x.lease.ends,(),()),()),(m,x.servers,x.sides,x.master.configs,x.places,()))=_ from k2]
   have at_: ∀j (hj:j<S.length),∃s,x.servers[j]? =some s/\ ∃ep,S[j] =vx s ep/\(ep=s.epoch\/(ep=e/\s.epoch<=e)):=by
    intro j hj;have hj':j<x.servers.length:=by rw[<-q.1]; exact hj
    obtain⟨ep,p1,p2,_⟩:=q.2 j _ (ah hj');rw[ah hj] at p1;exact⟨_,ah hj',ep,Option.some.inj p1,p2⟩
   have sv:=RB ok hv
   have fin:=UY ok hv S q.1 (fun s hs=>by
     obtain⟨j,hj,rfl⟩:=aJ hs;obtain⟨t,t1,ep,t2,_⟩:=at_ j hj;rw[t2];exact ok.1.2 t (ao t1))
    (fun j hj=>by obtain⟨t,t1,ep,t2,t3⟩:=at_ j hj;have hj':j<x.servers.length:=i5 t1;have svj:=sv j hj';rw[ah hj'] at t1;rw[Option.some.inj t1] at svj;have okt:=ok.1.2 x.servers[j] (aV hj');rw[Option.some.inj t1] at okt;rw[t2];have:=svj.ep;exact WA okt svj (by omega) (by omega) hml)
   refine⟨S,rfl,rfl,fin.1,fin.2,⟨rfl,rfl,fun j s h=>by obtain⟨ep,p1,_⟩:=q.2 j s h;exact⟨ep,p1⟩⟩,HQ q.1 fun j ha hb=> ?_⟩
   obtain⟨t,t1,ep,t2,_⟩:=at_ j ha;rw[ah hb] at t1;rw[t2,<-Option.some.inj t1];rfl
end Go.Proofs.YtjnleglhcppgcaaGreat.En
