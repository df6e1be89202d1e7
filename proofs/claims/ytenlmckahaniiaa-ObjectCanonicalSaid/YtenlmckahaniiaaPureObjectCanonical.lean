/- The law ObjectCanonical, as the printed row asks it: proved in YtenlmckahaniiaaMyObL5. -/
import Derived.Test.YtenlmckahaniiaaMyObL5
