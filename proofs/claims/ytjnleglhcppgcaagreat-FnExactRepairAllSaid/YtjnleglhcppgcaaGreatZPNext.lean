/- The members planned; the next configuration. -/
import Derived.Test.YtjnleglhcppgcaaGreatZPPlan
import Derived.Test.YtjnleglhcppgcaaGreatZPInst
namespace Go.Proofs.YtjnleglhcppgcaaGreat.En
open Go
theorem wm.filter {l:List Int} (h:wm l) (p:Int->Bool):wm (l.filter p):=by refine K4 (h.pair.filter p) fun y hy=> ?_;obtain⟨k,hk,rfl⟩:=aH (cr.1 hy).1;have:=(h k hk).1;omega
theorem JI:wm [0,1,2,3,4] :=by refine K4 (by simp[SS]) fun y hy=> ?_;simp at hy;omega
theorem JJ (l:List ew) (hl:l.length<=maxLen) (hv:gD l=some (true,())) (m a:List Int) (hm:wm m) (ha:wm a) (want:Int): ∃r,nF l m a want=some (r,())/\nP l m a want=some (r,())/\wm r:=by
 have al:=ha.len;have am:a.length<=maxLen:=by unfold maxLen; omega
 obtain⟨m1,m2⟩:=Hz hm;obtain⟨a1,a2⟩:=Hz ha
 have hp2:iO l=some (true,()):=by obtain⟨b,p1,p2⟩:=pX l hl;rw[hv] at p1;simp only[af,an,and_true] at p1;subst p1;exact p2
 unfold nF nP;simp only[Cr m a hm am,LP m a hm am,OY _ a JI am,zJ _ a JI am,Ej,hv,hp2,m1,m2,a1,a2,lV,nX,ae,fg,eb];cases kE want 0 5 with
 |false=>exact⟨[],rfl,rfl,fun k hk=>by simp at hk⟩
 |true=>
  have dl:=(JI.filter fun x=> !decide (x∈a)).len;generalize ([0,1,2,3,4]:List Int).filter (fun x=> !decide (x∈a))=dead at dl;have dm:dead.length<=maxLen:=by unfold maxLen; omega
  have go: ∀ (d:Nat) (out:List Int),wm out->(want-out.length).toNat<=d-> ∃r,(lM ((l,want,(),(),()),(),(out,dead,()))=some (.inl (((),(),()),(),(r,())))\/lM ((l,want,(),(),()),(),(out,dead,()))=some (.inr (((),(),()),(),(r,()))))/\n9 ((l,want,(),(),()),(),(out,dead,()))=some (((),()),(),(r,()))/\wm r:=by
   intro d
   induction d with
   |zero=>
    intro out ho hd;have c: ¬ (out.length:Int)<want:=by omega
    refine⟨out, .inr (ga ?_),ga ?_,ho⟩
    ·simp only[i6];rw[dV,if_neg c]
    ·simp only[i7];rw[dV,if_neg c]
   |succ d ih=>
    intro out ho hd;have ol:=ho.len;by_cases c: (out.length:Int)<want
    ·obtain⟨n,n1,n2,n3⟩:=F2 l hl hv out dead ho dm;rcases n3 with rfl| ⟨n3,n4,n5⟩
     ·refine⟨out, .inl (ga ?_),ga ?_,ho⟩
      ·simp only[i6,dV,if_pos c,n1,ae];rw[if_pos (by omega)]
      ·simp only[i7,dV,if_pos c,n2,ae];rw[if_pos (by omega)]
     ·obtain⟨r,r1,r2,r3,r4,r5⟩:=Ta out n (by omega) ho.pair;obtain⟨s,_,s2,s3,s4,_⟩:=QU out [n] (by simp; omega)
      have hrs:r=s:=r2.uniq s3 fun y=>by rw[r3,s4,ax];exact Or.comm
      subst hrs
      have hr:wm r:=K4 r2 fun y hy=>by
       rcases (r3 y).1 hy with rfl|h
       ·omega
       ·obtain⟨k,hk,rfl⟩:=aH h;have:=(ho k hk).1;omega
      have hlen:r.length=out.length+1:=r5 n5;obtain⟨t,t1,t2,t3⟩:=ih r hr (by omega)
      have e1:lM ((l,want,(),(),()),(),(out,dead,()))=lM ((l,want,(),(),()),(),(r,dead,())):=by refine j7 ?_;simp only[i6,dV,if_pos c,n1,ae,if_neg (show ¬n<0 by omega),r1]
      have e2:n9 ((l,want,(),(),()),(),(out,dead,()))=n9 ((l,want,(),(),()),(),(r,dead,())):=by refine j7 ?_;simp only[i7,dV,if_pos c,n2,ae,if_neg (show ¬n<0 by omega),s2]
      rw[e1,e2];exact⟨t,t1,t2,t3⟩
    ·refine⟨out, .inr (ga ?_),ga ?_,ho⟩
     ·simp only[i6];rw[dV,if_neg c]
     ·simp only[i7];rw[dV,if_neg c]
  simp only[eb];obtain⟨r,r1,r2,r3⟩:=go _ _ (hm.filter fun x=>decide (x∈a)) (ay _);rw[r2];rcases r1 with r1|r1<;>rw[r1]<;>exact⟨r,rfl,rfl,r3⟩
def uK (x:dT) (e id:Int):Bool:=gV x id.toNat&&(match x.servers[id.toNat]? with |some s=>s.config.epoch==e|none=>false)
theorem Lc (x:dT) (ok:iq 1048576 x) (want:Int): ∃n b,oS x want 0=some (n,b,())/\pa x want 0=some (n,b,())/\gK 1048576 n/\n.replicas.length<=5/\n.witnesses= [] :=by
 obtain⟨v,v1,v2⟩:=iL x ok;unfold oS pa;simp only[v1,v2,ae,fg,lV,nX,show kE 0 0 1=true by decide,eb];have zero:gK 1048576 ⟨0,0,[],[]⟩:=⟨aF _,aF _⟩
 cases v with
 |false=>exact⟨_,_,rfl,rfl,zero,aF _,rfl⟩
 |true=>
  simp only[eb];cases kE want 1 3 with
  |false=>exact⟨_,_,rfl,rfl,zero,aF _,rfl⟩
  |true=>
   have vc:=kh ok v1;have hml:=O0 ok.2.2.1 vc.ml;simp only[eb,kt,dV];by_cases h20: (x.master.configs.length:Int)=20
   ·simp only[if_pos h20,if_pos (show (x.master.configs.length:Int)≥20 by omega)];exact⟨_,_,rfl,rfl,zero,aF _,rfl⟩
   ·obtain⟨c,d,d1,d2,d3,d4,d5,d6⟩:=qJ x ok v1;have hsl:=sC (eR ok.2.1) vc.sides
    have asc:wm c.replicas/\(d=true->1<=c.epoch)/\(d=true->c≠⟨0,0,[],[]⟩):=by
     cases d with
     |false=>rw[d6 rfl]; exact⟨fun k hk=>by simp at hk,nofun,nofun⟩
     |true=>obtain⟨q1,_,_,q4,_⟩:=sA d3 (d5 rfl).1;exact⟨q1,fun _=>q4,fun _ e=>by rw[e] at q4; simp at q4⟩
    obtain⟨asc,ep,nz⟩:=asc;have rl:=asc.len;have rm:c.replicas.length<=maxLen:=by unfold maxLen; omega
    have inr: ∀z∈c.replicas,0<=z/\z<5:=by intro z hz;obtain⟨k,hk,rfl⟩:=aH hz;have:=(asc k hk).1;omega
    have ial:=LU (gV x) (ay 5)
    have iam: (uf (gV x) 5).length<=maxLen:=by have:=ial.len;unfold maxLen;omega
    have memA: ∀z,0<=z/\z<5->decide (z∈uf (gV x) 5)=gV x z.toNat:=by
     intro z hz;cases h:gV x z.toNat with
     |true=>exact decide_eq_true ((zM _ _ _).2 ⟨z.toNat,by omega,h,by omega⟩)
     |false=>
      refine decide_eq_false fun hm=> ?_;obtain⟨k,_,k2,k3⟩:=(zM _ _ _).1 hm;have :z.toNat=k:=by omega
      rw[this,k2] at h;cases h
    have kS:=gJ (B:=kP) c.replicas (fun k (b:List Int)=>((want,0,(),(),(),(),(),(k:Int),()),((x.now,x.servers,x.sides,x.master.configs,x.master.activated,x.masterUp,x.lease.epoch,x.lease.holder,x.lease.ends,x.places,()),(0,0,(),(),()),(c.epoch,c.primary,(),(),()),()),(uf (gV x) 5,b,c.replicas,c.witnesses,()))) (fun k b=>b=(c.replicas.take k).filter (uK x c.epoch))
     (fun _ _ _=>((want,0,(),(),(),(),(),()),((x.now,x.servers,x.sides,x.master.configs,x.master.activated,x.masterUp,x.lease.epoch,x.lease.holder,x.lease.ends,x.places,()),(0,0,(),(),()),(c.epoch,c.primary,(),(),()),()),(uf (gV x) 5,c.replicas.filter (uK x c.epoch),c.replicas,c.witnesses,())))
     (fun b hb=>by simp only[kP];rw[dV,if_neg (by omega),hb,aX])
     (fun k b z hz hb=>by
       have hk:=fR hz;have c1: (k:Int)< (c.replicas.length:Int):=by omega
       have c2: (0:Int)<=(k:Int)/\(k:Int)< (c.replicas.length:Int):=by omega
       have hzz:=inr z (aq hz);have hlt:z.toNat<x.servers.length:=by rw[vc.len]; omega
       have hol:b.length<=5:=by rw[hb];have:=cN (uK x c.epoch) (c.replicas.take k);simp only[b6] at this;omega
       have h40: (b++ [z]).length*8<=2 ^ 40:=jC (by simp; omega)
       have hke:uK x c.epoch z=(gV x z.toNat&&(x.servers[z.toNat].config.epoch==c.epoch)):=by unfold uK;rw[ah hlt]
       have hS:fX (uf (gV x) 5) z=some (gV x z.toNat,()):=by rw[(gp _ z iam).1,memA z hzz]
       simp only[kP,dV,kt,dZ,if_pos c1,if_pos c2,ao,hz,ae,hS,if_pos hzz.1,ah hlt,ec rm hk,if_pos h40];simp only[gr hz,bL];cases ha:gV x z.toNat with
       |false=>exact .inl ⟨b,rfl,by rw[hb]; simp[hke,ha],trivial⟩
       |true=>
        simp only[eb];by_cases he:x.servers[z.toNat].config.epoch=c.epoch
        ·simp only[if_pos he];exact .inl ⟨b++ [z],rfl,by rw[hb]; simp[hke,ha,he],trivial⟩
        ·simp only[if_neg he];exact .inl ⟨b,rfl,by rw[hb]; simp[hke,ha,he],trivial⟩)
     0 [] (aF _) rfl
    have hsv:fM x x=some (uf (gV x) 5,()):=by
     have hm5:x.servers.length<=maxLen:=eR ok.1.1
     have kk:=gJ (B:=fe) x.servers (fun k (b:List Int)=>(((x,()),(),x.servers,(x.servers.length:Int),(k:Int),()),(),(b,()))) (fun k b=>b=uf (gV x) k) (fun _ _ _=>(((),()),(),(uf (gV x) 5,())))
      (fun b hb=>by simp only[fe];rw[dV,if_neg (by omega),hb,vc.len])
      (fun k b s hs hb=>by
        have hk:=fR hs;have c1: (k:Int)< (x.servers.length:Int):=by omega
        have c2: (0:Int)<=(k:Int):=by omega
        have hk5:k<5:=by rw[<-vc.len]; exact hk
        have h40: (b++ [(k:Int)]).length*8<=2 ^ 40:=by rw[hb]; exact OU (by omega) _
        simp only[fe,n8,dV,dZ,if_pos c1,if_pos c2,ao,hs,ae,OX x vc.len hsl k hk5,if_pos h40,ec hm5 hk];rw[Ef,<-hb];cases gV x k with
        |true=>exact .inl ⟨b++ [(k:Int)],rfl,rfl,trivial⟩
        |false=>exact .inl ⟨b,rfl,by simp,trivial⟩)
      0 [] (aF _) rfl
     unfold fM;simp only[v2,ae,bg,ek];rw[show ky (((x,()),(),x.servers,(x.servers.length:Int),0,()),(),([],()))=_ from kk];rfl
    have hdel:fh c.replicas x c=some (c.replicas.filter (uK x c.epoch),()):=by
     have h:=RU (F:=fun a=>fh a x c) (B2:=fU) (B5:=fv) (x,c,()) (fun i=>jS i x c) (fun i=> !uK x c.epoch i) (fun _=>rfl) (fun _ _ _=>rfl) (fun _ _ _=>rfl) c.replicas (by omega) (fun z hz=>by
      have hzz:=inr z hz;have hlt:z.toNat<x.servers.length:=by rw[vc.len]; omega
      have hu:=OX x vc.len hsl z.toNat (by omega);rw[Int.toNat_of_nonneg hzz.1] at hu;unfold jS uK;simp only[hu,ae,dZ,if_pos hzz.1,ah hlt,fg];cases gV x z.toNat<;>rfl)
     simpa using h
    obtain⟨r,r1,r2,r3⟩:=JJ x.places (eR ok.2.2.2) vc.places (c.replicas.filter (uK x c.epoch)) (uf (gV x) 5) (asc.filter _) ial want;have rl':=r3.len;have rm':r.length<=maxLen:=by unfold maxLen; omega
    obtain⟨w,w1,w2⟩:=F2 x.places (eR ok.2.2.2) vc.places r (([0,1,2,3,4]:List Int).filter fun y=> !decide (y∈uf (gV x) 5)) r3 (by have:=(JI.filter fun y=> !decide (y∈uf (gV x) 5)).len;unfold maxLen;omega)
    simp only[if_neg h20,if_neg (show ¬ (x.master.configs.length:Int)≥20 by omega),Tb x ok v1,d1,d2,hsv,ae,ja];rw[fL (jC (show c.replicas.length<=1048576 by omega))];rw[show vM ((want,0,(),(),(),(),(),0,()),((x.now,x.servers,x.sides,x.master.configs,x.master.activated,x.masterUp,x.lease.epoch,x.lease.holder,x.lease.ends,x.places,()),(0,0,(),(),()),(c.epoch,c.primary,(),(),()),()),(uf (gV x) 5,[],c.replicas,c.witnesses,()))=_ from kS];simp only[ae,hdel,r1,r2,(gp r c.primary rm').1,(gp r c.primary rm').2,Ej,zJ _ _ JI iam,w2.1,uI _ d3,show (⟨c.epoch,c.primary,c.replicas,c.witnesses⟩:dW)=c from rfl];by_cases h0: (r.length:Int)=0
    ·simp only[if_pos h0];exact⟨_,_,rfl,rfl,zero,aF _,rfl⟩
    ·have c0: (0:Int)<=0/\(0:Int)< (r.length:Int):=by omega
     have hg:r[(0:Int).toNat]? =some (r[0]'(by omega)):=ah _;simp only[if_neg h0,dZ,if_pos c0,hg,ae,fg,dV,show ¬ (0:Int)=1 by omega,if_false];have fin: ∀p:Int,gK 1048576 ⟨IntKind.wrap .i64 ((x.master.configs.length:Int)+1),p,r,[]⟩:=fun p=>⟨by show r.length<=_; omega,aF _⟩
     cases d with
     |false=>
      have hc:=d6 rfl;subst hc;simp only[decide_true,if_true,show ¬ (0:Int)>0 by omega,if_false];by_cases hmem: (0:Int)∈r
      ·simp only[if_pos hmem];exact⟨_,_,rfl,rfl,fin _,rl',rfl⟩
      ·simp only[if_neg hmem];exact⟨_,_,rfl,rfl,fin _,rl',rfl⟩
     |true=>
      have he:=ep rfl;simp only[decide_eq_false (nz rfl),if_neg (nz rfl),if_pos (show c.epoch>0 by omega)];by_cases hmem:c.primary∈r
      ·simp only[if_pos hmem];exact⟨_,_,rfl,rfl,fin _,rl',rfl⟩
      ·simp only[if_neg hmem];exact⟨_,_,rfl,rfl,fin _,rl',rfl⟩
end Go.Proofs.YtjnleglhcppgcaaGreat.En
