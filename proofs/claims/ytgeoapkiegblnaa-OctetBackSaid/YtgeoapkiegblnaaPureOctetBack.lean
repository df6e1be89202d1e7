/- The law OctetBack, as the printed row asks it: proved in YtgeoapkiegblnaaMyOctL. -/
import Derived.Test.YtgeoapkiegblnaaMyOctL
